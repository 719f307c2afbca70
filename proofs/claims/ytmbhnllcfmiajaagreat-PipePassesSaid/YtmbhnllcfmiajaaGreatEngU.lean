/-
  The engine, part U: slices of one's own that grow. Plain laws; no conditions.
-/
import Derived.Test.YtmbhnllcfmiajaaGreatEngT
namespace Go.Proofs.YtmbhnllcfmiajaaGreat
open Go.RowKit
section
variable {P : Program} {o : Oper} {X : Nat → Nat → Prop} {φ0 : Nat → FSlot} {w0 : World} {s : AS}
inductive OpG (n:Nat) (ty:TypeId) (m:Nat):AV→AV→Prop where
 | same (a:AV):OpG n ty m a a
 | nil:OpG n ty m (.lit (.slice none 0 0)) (.gro n ty m 0)
theorem Q81 (n:Nat) (ty:TypeId) (m:Nat) (hs:s.slot n=.unused) {regs':List AV} {own':List Slot} (hr:LPw (OpG n ty m) s.regs regs') (hd:own'.getD n .unused=.gro m []) (ho:∀ k,k ≠ n→SPw (OpG n ty m) (s.slot k) (own'.getD k .unused)):Mor X φ0 w0 s ⟨regs',own'⟩:=
 Qrr (R:=OpG n ty m) (fun φ w henv=>by
  have hn:φ n=.unused:=by
   have:=henv.slot n
   rw [hs] at this
   exact this
  have ne:∀ q,φ q ≠ .unused→q ≠ n:=fun q hq e=>hq (e ▸ hn)
  have evo:Evo X φ w (upd φ n (.tok none)) w:=by
   refine ⟨rfl,rfl,rfl,Nat.le_refl _,fun _ _ _=>rfl,fun b' ⟨q,hq⟩=>?_,fun b' off hdat=>⟨⟨hdat.lt,hdat.hid,fun q hq=>?_,fun q L hq=>?_,fun q Y hq=>?_,fun q bs z hq=>?_⟩,rfl⟩,fun q hq=>?_,fun q b' hq=>?_,fun q t hq=>?_,fun q Y hq=>?_,fun q bs hq=>?_,fun _ _ _ _=>.same rfl⟩
   ·unfold upd at hq
    split at hq
    ·first | exact (Qa0 hq).elim | exact (Qc1 hq).elim
    ·exact .inl ⟨q,hq⟩
   ·unfold upd at hq
    split at hq
    ·cases hq
    ·exact hdat.own q hq
   ·unfold upd at hq
    split at hq
    ·cases hq
    ·exact hdat.tok q L hq
   ·unfold upd at hq
    split at hq
    ·cases hq
    ·exact hdat.far q Y hq
   ·unfold upd at hq
    split at hq
    ·cases hq
    ·exact hdat.mat q bs z hq
   ·unfold upd; rw [if_neg (ne q (by rw [hq]; simp))]; exact hq
   ·unfold upd; rw [if_neg (ne q (by rw [hq]; simp))]; exact .inl hq
   ·unfold upd; rw [if_neg (ne q (by rw [hq]; simp))]; exact .inr ⟨hq,fun _ _ _=>rfl⟩
   ·unfold upd; rw [if_neg (ne q (by rw [hq]; simp))]; exact .inr ⟨Y,hq⟩
   ·unfold upd; rw [if_neg (ne q (by rw [hq]; simp))]; exact .inr ⟨bs,hq,.refl bs⟩
  have hR:∀ a a' v,OpG n ty m a a'→RelV X φ w a v→RelV X (upd φ n (.tok none)) w a' v:=fun a a' v hf hv=>by
   cases hf with
   | same=>exact hv.evo evo
   | nil=>
    have:=Qcf hv
    subst this
    exact .gro n ty m 0 none 0 (Nat.le_refl _) (Nat.zero_le _) (by simp [upd]) (fun _=>⟨rfl,rfl⟩) (fun b hb=>by simp [upd] at hb)
  refine ⟨upd φ n (.tok none),evo,fun q q' b' h1 h2=>?_,fun q=>?_,hR⟩
  ·unfold upd at h1 h2
   split at h1
   ·first | exact (Qa0 h1).elim | exact (Qc1 h1).elim
   ·split at h2
    ·first | exact (Qa0 h2).elim | exact (Qc1 h2).elim
    ·exact henv.distinct q q' b' h1 h2
  ·by_cases e:q=n
   ·subst e
    rw [hd]
    exact .inl ⟨rfl,by simp [upd]⟩
   ·have hsp:=ho q e
    have hok:=henv.slot q
    have eq:upd φ n (.tok none) q=φ q:=by simp [upd,e]
    generalize s.slot q=s1 at hsp hok
    generalize own'.getD q .unused=s2 at hsp
    cases hsp with
    | unused=>exact eq.trans hok
    | dead=>exact eq.trans hok
    | tok=>obtain ⟨t,ht,ht'⟩:=hok; exact ⟨t,eq.trans ht,ht'⟩
    | own m xs xs' hl' hp=>obtain ⟨b,hb,hown⟩:=hok; exact ⟨b,eq.trans hb,hown.pw hR hl' hp⟩
    | gro m xs xs' hl' hp=>
     rcases hok with ⟨h1,h2⟩ | ⟨b,hb,hown⟩
     ·exact .inl ⟨List.eq_nil_of_length_eq_zero (by rw [← hl',h1]; rfl),eq.trans h2⟩
     ·exact .inr ⟨b,eq.trans hb,hown.pw hR hl' hp⟩
    | far J=>
     obtain ⟨Y,D,B,f1,f2,f3⟩:=hok
     exact ⟨Y,D,B,eq.trans f1,f2,f3.own,fun b off hx hy=>⟨(evo.dat b off (f3.dat b off hx hy).1).1,(f3.dat b off hx hy).2⟩,f3.os,f3.tape,f3.output,f3.size⟩
    | mat m rows hp=>
     obtain ⟨bs,m1,m2,m3,m4⟩:=hok
     refine ⟨bs,eq.trans m1,m2,m3,fun k xs hk=>?_⟩
     rcases m4 k xs hk with m5 | ⟨b,m5,m6⟩
     ·exact .inl m5
     ·exact .inr ⟨b,m5,m6.pw hR rfl fun j x x' h1 h2=>by rw [h1] at h2; cases h2; exact hp xs (List.mem_of_getElem? hk) x (List.mem_of_getElem? h1)⟩
    | mp es clock=>obtain ⟨b,hb,hown⟩:=hok; exact ⟨b,eq.trans hb,hown⟩) hr
end
section
variable {P : Program} {o : Oper} {X : Nat → Nat → Prop} {φ : Nat → FSlot} {w : World}
theorem Zen {n0 n b':Nat} {e:TypeId} {cur':Array Value} {w':World} (hd:Qb9 φ) (hlt:∀ n b,(φ n).lies b→b<w.heap.size) (hn:φ n=.unused)
  (h0:φ n0=.tok none∨∃ b,φ n0=.own b) (hc:(∃ (cur:Array Value),φ n0=.own b'∧w.heap[b']? = some (.cells cur e (0,0))∧w'=w.setRow b' cur')∨(b'=w.heap.size∧w'=w.drew.alloc (.cells cur' e))) :
  Evo X φ w (fun k=>if k=n then .own b' else if k=n0 then .dead else φ k) w'∧Qb9 (fun k=>if k=n then FSlot.own b' else if k=n0 then .dead else φ k):=by
 have ne:∀ k,φ k ≠ .unused→k ≠ n:=fun k hk e=>hk (e ▸ hn)
 have only:∀ k,(φ k).lies b'→k=n0∨k=n:=fun k hk=>by
  rcases hc with ⟨cur,h1,_⟩ | ⟨rfl,_⟩
  ·exact .inl (hd k n0 b' hk (.own h1))
  ·exact absurd (hlt k _ hk) (Nat.lt_irrefl _)
 have dead0:∀ k,k=n0→φ k=.tok none∨∃ b,φ k=.own b:=fun k hk=>by subst hk; exact h0
 have hother:∀ b,b ≠ b'→b<w.heap.size→w'.heap[b]? = w.heap[b]? := fun b hb hbl=>by
  rcases hc with ⟨_,_,_,rfl⟩ | ⟨_,rfl⟩
  ·exact setRow_other w b' b cur' hb
  ·exact heap_alloc_old w.drew _ hbl
 have hsize:w.heap.size≤w'.heap.size:=by
  rcases hc with ⟨_,_,_,rfl⟩ | ⟨_,rfl⟩<;>simp
 refine ⟨⟨?_,?_,?_,hsize,fun b hb hnb=>?_,fun b ⟨k,hk⟩=>?_,fun b off hdat=>?_,fun k hk=>?_,fun k b hk=>?_,fun k t hk=>?_,fun k Y hk=>?_,fun k bs hk=>?_,fun k b hk hk2=>?_⟩,fun k k' b hk hk'=>?_⟩
 ·rcases hc with ⟨_,_,_,rfl⟩ | ⟨_,rfl⟩<;>rfl
 ·rcases hc with ⟨_,_,_,rfl⟩ | ⟨_,rfl⟩<;>rfl
 ·rcases hc with ⟨_,_,_,rfl⟩ | ⟨_,rfl⟩<;>rfl
 ·refine hother b (fun e=>?_) hb
  rcases hc with ⟨cur,h1,_⟩ | ⟨h1,_⟩
  ·exact hnb ⟨n0,.own (by rw [h1,e])⟩
  ·omega
 ·dsimp only at hk
  split at hk
  ·obtain rfl:=Qfh hk
   rcases hc with ⟨cur,h1,_⟩ | ⟨h1,_⟩
   ·exact .inl ⟨n0,.own h1⟩
   ·exact .inr (by omega)
  ·split at hk
   ·exact (Qa0 hk).elim
   ·exact .inl ⟨k,hk⟩
 ·have hbb:b ≠ b':=fun e=>by
   subst e
   rcases hc with ⟨cur,h1,_⟩ | ⟨h1,_⟩
   ·exact hdat.own n0 h1
   ·have:=hdat.lt; omega
  refine ⟨⟨Nat.lt_of_lt_of_le hdat.lt hsize,hdat.hid,fun k hk=>?_,fun k L hk=>?_,fun k Y hk=>?_,fun k bs q hk=>?_⟩,World.cell?_of_block (hother b hbb hdat.lt)⟩
  ·split at hk
   ·cases hk; exact hbb rfl
   ·split at hk
    ·cases hk
    ·exact hdat.own k hk
  ·split at hk
   ·cases hk
   ·split at hk
    ·cases hk
    ·exact hdat.tok k L hk
  ·split at hk
   ·cases hk
   ·split at hk
    ·cases hk
    ·exact hdat.far k Y hk
  ·split at hk
   ·cases hk
   ·split at hk
    ·cases hk
    ·exact hdat.mat k bs q hk
 ·rw [if_neg (ne k (by rw [hk]; simp)),if_neg (fun e=>by rcases dead0 k e with ht | ⟨b,ht⟩<;>rw [hk] at ht<;>cases ht)]
  exact hk
 ·rw [if_neg (ne k (by rw [hk]; simp))]
  by_cases e:k=n0
  ·rw [if_pos e]; exact .inr rfl
  ·rw [if_neg e]; exact .inl hk
 ·rw [if_neg (ne k (by rw [hk]; simp))]
  by_cases e:k=n0
  ·rw [if_pos e]; exact .inl rfl
  ·rw [if_neg e]
   refine .inr ⟨hk,fun b L ht=>?_⟩
   subst ht
   have hl:(φ k).lies b:=.tok hk
   refine hother b (fun e'=>?_) (hlt k b hl)
   subst e'
   rcases only k hl with h | h
   ·exact e h
   ·exact ne k (by rw [hk]; simp) h
 ·rw [if_neg (ne k (by rw [hk]; simp)),if_neg (fun e=>by rcases dead0 k e with ht | ⟨b,ht⟩<;>rw [hk] at ht<;>cases ht)]
  exact .inr ⟨Y,hk⟩
 ·rw [if_neg (ne k (by rw [hk]; simp)),if_neg (fun e=>by rcases dead0 k e with ht | ⟨b,ht⟩<;>rw [hk] at ht<;>cases ht)]
  exact .inr ⟨bs,hk,.refl bs⟩
 ·have hl:(φ k).lies b:=.own hk
  refine .same (hother b (fun e'=>?_) (hlt k b hl))
  subst e'
  rcases only k hl with h | h
  ·rw [if_neg (ne k (by rw [hk]; simp)),if_pos h] at hk2; cases hk2
  ·exact ne k (by rw [hk]; simp) h
 ·dsimp only at hk hk'
  split at hk<;>split at hk'
  ·simp_all
  ·obtain rfl:=Qfh hk
   split at hk'
   ·exact (Qa0 hk').elim
   ·rcases only k' hk' with h | h<;>contradiction
  ·obtain rfl:=Qfh hk'
   split at hk
   ·exact (Qa0 hk).elim
   ·rcases only k hk with h | h<;>contradiction
  ·split at hk
   ·exact (Qa0 hk).elim
   ·split at hk'
    ·exact (Qa0 hk').elim
    ·exact hd k k' b hk hk'
theorem Q5b {x y:Operand} {t e:TypeId} {m m' bytes:Nat} {u:AV} {xs ys:List (List AV)} {n0 n len:Nat} (h:o.op=.call { callee:=.builtin .append,args := #[x,y],argTypes := #[t,t] }) (ht:P.underlying t=some (.slice e)) (he:TE P e m bytes)
  (hlen:xs.length=len) (hu:Qs3 u=some (m',ys)) (hm':m'=m) (hne:ys ≠ []) (h1:(ys.all fun y=>y.all AV.one)=true) (hb:(xs.length+ys.length) * bytes≤140737488355328) (h63:xs.length+ys.length≤maxLen) {L:Nat} (hL:len+ys.length=L) :
  Qcg P o [(x,.gro n0 e m len),(y,u)] [(n0,.gro m xs),(n,.unused)] (.gro n e m L) [(n0,.dead),(n,.gro m (xs++ys))]:=by
 subst hm' hlen hL
 intro X φ a w hrd hbl hd hX hlt next Q k
 have hn:φ n=.unused:=hbl (n,.unused) (by simp)
 have hpos:=he.pos
 obtain ⟨A,len,cap,g,hy,ok,hr⟩:=Qm6 (hrd (y,u) (by simp)) hu
 dsimp only at hy
 obtain ⟨ad,news,rfl,hnl,hnc,hn1,hng⟩:=Qr8 ok hr hpos hne h1
 have elen:=ok.hlen
 subst elen
 have hx:=hrd (x,.gro n0 e m' xs.length) (by simp)
 dsimp only at hx
 have hs0:=hbl (n0,.gro m' xs) (by simp)
 obtain ⟨A1,cap1,hxe,hc1,hcm,hv,ho⟩:∃ A1 cap1,a.eval x=.slice A1 xs.length cap1∧xs.length≤cap1∧cap1≤maxLen∧(φ n0=.tok none→xs.length=0∧cap1=0)∧(∀ b,φ n0=.own b→A1=some ⟨b,0,none⟩∧∃ cur,w.heap[b]? = some (.cells cur e (0,0))∧cur.size=cap1 * m'):=by
  cases hxe:a.eval x with
  | slice A l c=>
   rw [hxe] at hx
   cases hx with
   | gro _ _ _ _ _ _ q1 q2 q3 q4 q5=>exact ⟨A,c,rfl,q1,q2,q4,q5⟩
  | _=>rw [hxe] at hx; cases hx
 have h0:φ n0=.tok none∨∃ b,φ n0=.own b:=by
  rcases hs0 with ⟨_,h⟩ | ⟨b,h,_⟩
  ·exact .inl h
  ·exact .inr ⟨b,h⟩
 obtain ⟨olds,hol,hsv,hog⟩:∃ olds:List Value,olds.length=xs.length * m'∧(((∃ A,a.eval x=.slice A 0 0)∧xs.length=0)∨∃ g cap cur,a.eval x=.slice (some ⟨g,0,none⟩) xs.length cap∧w.heap[g]? = some (.cells cur e (0,0))∧cur.size=cap * m'∧xs.length≤cap∧cap≤maxLen∧cur.toList.take (xs.length * m')=olds) ∧
   (∀ j z,xs[j]? = some z→z.length=m'∧∀ i c,z[i]? = some c→∃ v,olds[j * m'+i]? = some v∧RelV X φ w c v):=by
  rcases hs0 with ⟨rfl,h⟩ | ⟨b,h,hown⟩
  ·obtain ⟨q1,q2⟩:=hv h
   subst q2
   exact ⟨[],by simp,.inl ⟨⟨A1,hxe⟩,rfl⟩,by simp⟩
  ·obtain ⟨rfl,cur,q3,q4⟩:=ho b h
   obtain ⟨⟨cur2,ty2,r1,r2,r3,r4⟩,_⟩:=hown
   rw [q3] at r1
   cases r1
   refine ⟨cur.toList.take (xs.length * m'),by simp; omega,.inr ⟨b,cap1,cur,hxe,q3,q4,hc1,hcm,rfl⟩,fun j z hj=>⟨r3 z (List.mem_of_getElem? hj),fun i c hi=>?_⟩⟩
   have hjl:=(List.getElem?_eq_some_iff.1 hj).1
   have him:i<m':=by
    have:=r3 z (List.mem_of_getElem? hj)
    have:=(List.getElem?_eq_some_iff.1 hi).1
    omega
   have hoff:=Qd6 hjl him
   have:=r4 j z hj i c hi
   have hlt2:j * m'+i<cur.size:=by omega
   refine ⟨cur.getD (j * m'+i) undef,?_,this⟩
   rw [List.getElem?_take,if_pos hoff,Array.getElem?_toList,Array.getD_eq_getD_getElem?,Array.getElem?_eq_getElem hlt2]
   rfl
 obtain ⟨b',cap',cur',w',hrun,c1,c2,c3,c4,c5⟩:=Qpo (P:=P) (ty:=o.type) ht he (a.eval x) xs.length olds hol hsv ad ys.length cap news hnl hnc hn1 (List.length_pos_iff.2 hne) hb h63
 have hexec:(execOp a.eval o).run P w=.ok (.value (.slice (some ⟨b',0,none⟩) (xs.length+ys.length) cap')) w':=by
  simp only [execOp,h,resolve,invoke,builtin,Sem.run_bind,Sem.run_pure,Result.andThen_ok,List.map_toArray,List.map_cons,List.map_nil,hy,hrun]
 have hcase:(∃ (cur:Array Value),φ n0=.own b'∧w.heap[b']? = some (.cells cur e (0,0))∧w'=w.setRow b' cur')∨(b'=w.heap.size∧w'=w.drew.alloc (.cells cur' e)):=by
  rcases c5 with ⟨capx,h3,hroom,h4⟩ | h3
  ·rcases hs0 with ⟨_,h⟩ | ⟨b,h,_⟩
   ·obtain ⟨q1,q2⟩:=hv h
    rw [hxe] at h3
    have hc:=(Value.slice.inj h3).2.2
    have:=List.length_pos_iff.2 hne
    omega
   ·obtain ⟨q1,cur,q3,_⟩:=ho b h
    rw [hxe,q1] at h3
    have hb2:=(Value.slice.inj h3).1
    cases hb2
    exact .inl ⟨cur,h,q3,h4⟩
  ·exact .inr h3
 have cget:∀ off,off<(xs.length+ys.length) * m'→cur'[off]? = (olds++news)[off]? := fun off ho=>by
  rw [← c4,List.getElem?_take,if_pos ho,Array.getElem?_toList]
 have hheap:w'.heap[b']? = some (.cells cur' e (0,0)):=by
  rcases hcase with ⟨cur,_,h3,rfl⟩ | ⟨rfl,rfl⟩
  ·exact setRow_heap w b' cur cur' _ _ h3
  ·exact heap_alloc_new w.drew _
 have hXb:∀ off,¬ X b' off:=fun off hx'=>by
  rcases hcase with ⟨cur,h6,_⟩ | ⟨h6,_⟩
  ·rcases hs0 with ⟨_,h⟩ | ⟨b,h,hown⟩
   ·rw [h] at h6; cases h6
   ·rw [h] at h6; cases h6; exact hown.hid off hx'
  ·have:=hX _ _ hx'; omega
 obtain ⟨evo,hd'⟩:=Zen (X:=X) hd hlt hn h0 hcase
 have hnn:n0 ≠ n:=fun e=>by
  subst e
  rcases h0 with h | ⟨b,h⟩<;>rw [hn] at h<;>cases h
 refine Qgp hexec ?_
 refine k _ _ w' (.gro _ _ _ _ _ _ c2 c3 (by simp) (fun h=>by simp at h) fun b hb'=>?_) (fun p hp=>?_) hd' (fun q hq=>?_) (fun b hb hfr=>?_) evo
 ·simp at hb'
  subst hb'
  exact ⟨rfl,cur',hheap,c1⟩
 ·simp only [List.mem_cons,List.not_mem_nil,or_false] at hp
  rcases hp with rfl | rfl
  ·show (if n0=n then _ else _)=_
   rw [if_neg hnn,if_pos rfl]
  ·refine .inr ⟨b',by simp,⟨cur',e,hheap,?_,fun z hz=>?_,fun j z hj i c hi=>?_⟩,hXb⟩
   ·rw [c1,List.length_append]; exact Nat.mul_le_mul_right _ c2
   ·rcases List.mem_append.1 hz with hz | hz
    ·obtain ⟨j,hj,rfl⟩:=List.getElem_of_mem hz
     exact (hog j _ (List.getElem?_eq_getElem hj)).1
    ·exact ok.hsize z hz
   ·have hjl:j<xs.length+ys.length:=by simpa using (List.getElem?_eq_some_iff.1 hj).1
    rw [Array.getD_eq_getD_getElem?]
    by_cases hjx:j<xs.length
    ·rw [List.getElem?_append_left hjx] at hj
     obtain ⟨hz,hzr⟩:=hog j z hj
     have him:i<m':=by
      have:=(List.getElem?_eq_some_iff.1 hi).1
      omega
     obtain ⟨v,hv1,hv2⟩:=hzr i c hi
     rw [cget _ (Qd6 hjl him),List.getElem?_append_left (by rw [hol]; exact Qd6 hjx him),hv1]
     exact hv2.evo evo
    ·rw [List.getElem?_append_right (by omega)] at hj
     have him:i<m':=by
      have:=ok.hsize z (List.mem_of_getElem? hj)
      have:=(List.getElem?_eq_some_iff.1 hi).1
      omega
     have e1:j * m'+i - olds.length=(j - xs.length) * m'+i:=by
      rw [hol,Nat.sub_mul]
      have:=Nat.mul_le_mul_right m' (show xs.length≤j by omega)
      omega
     rw [cget _ (Qd6 hjl him),List.getElem?_append_right (by rw [hol]; have:=Nat.mul_le_mul_right m' (show xs.length≤j by omega); omega),e1,hng (j - xs.length) i (by omega) him]
     exact (hr (j - xs.length) z hj i c hi).evo evo
 ·have hqn:q ≠ n:=fun e=>hq (by simp [e])
  have hq0:q ≠ n0:=fun e=>hq (by simp [e])
  simp [hqn,hq0]
 ·rcases hcase with ⟨cur,h6,h8,rfl⟩ | ⟨rfl,rfl⟩
  ·refine setRow_other w b' b cur' (fun e=>?_)
   subst e
   exact hfr (n0,.dead) (by simp) (.own h6)
  ·exact heap_alloc_old w.drew _ hb
inductive OpU (n:Nat):AV→AV→Prop where
 | same (a:AV):OpU n a a
 | own (ty m len:Nat):OpU n (.gro n ty m len) (.own n m 0 len)
end
end Go.Proofs.YtmbhnllcfmiajaaGreat
