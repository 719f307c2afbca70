/-
  The engine, part C: the law of a region, whatever order is drawn. Plain laws; no conditions.
-/
import Derived.Test.YtmbhnllcfmiajaaGreatEngB
import Derived.Scope
import Derived.LoopN
import Derived.LoopNIn
namespace Go.Proofs.YtmbhnllcfmiajaaGreat
open Go.RowKit
section
variable {X : Nat → Nat → Prop} {φ0 : Nat → FSlot} {w0 : World}
structure RInv (X:Nat→Nat→Prop) (φ0:Nat→FSlot) (w0:World) (l:List (Oper×Rec)) (regs:List AV) (own:List Slot) (S:Nat→Bool) (φ:Nat→FSlot) (a:Act) (w:World):Prop where
 low:∀ n b,(φ0 n).lies b→b<w0.heap.size
 defers:Marks φ w0 w a.defers
 size:a.tmps.size=regs.length
 regs:∀ t,t<regs.length→RelV X φ w (valS l 0 S (regs.getD t .any) t) (a.tmps.getD t undef)
 slot:∀ n,SlotOK X φ w n (Qj7 l 0 S (own.getD n .unused) n)
 distinct:Qb9 φ
 hid:∀ b off,X b off→b<w.heap.size
 evo:Evo X φ0 w0 φ w
theorem Q0b {o o':Oper} {c c':Rec} {t:Tmp} (h:o'.dst=some t) (ht:t ∈ c.slots):Qln o' c' o c=true:=by
 simp [Qln,h,ht]
theorem Q0a {o o':Oper} {c c':Rec} {t:Tmp} (h:o'.dst=some t) (ht:t ∈ c.slots):Qln o c o' c'=true:=by
 simp [Qln,h,ht]
theorem Q94 {o o':Oper} {c c':Rec} {t:Tmp} (h:o.dst=some t) (h':o'.dst=some t):Qln o c o' c'=true:=by
 simp [Qln,h,h']
theorem Zao {l:List (Nat×Slot)} {k:List (Nat×Slot)} {n:Nat} (h:n ∈ l.map (·.1)) (h':n ∈ k.map (·.1)):(l.any fun p=>k.any fun q=>p.1==q.1)=true:=by
 obtain ⟨p,hp,e⟩:=List.mem_map.1 h
 obtain ⟨q,hq,e'⟩:=List.mem_map.1 h'
 exact List.any_eq_true.2 ⟨p,hp,List.any_eq_true.2 ⟨q,hq,by simp [e,e']⟩⟩
theorem Q4y {o o':Oper} {c c':Rec} {n:Nat} (h:n ∈ c'.eff.map (·.1)) (h':n ∈ c.bl.map (·.1)):Qln o' c' o c=true:=by
 simp only [Qln,Zao h h',Bool.or_true,Bool.true_or]
theorem Qtv {o o':Oper} {c c':Rec} {n:Nat} (h:n ∈ c'.eff.map (·.1)) (h':n ∈ c.bl.map (·.1)):Qln o c o' c'=true:=by
 simp only [Qln,Zao h h',Bool.or_true]
def Fit (l:List (Oper×Rec)) (S:Nat→Bool) (i:Nat) (o:Oper) (c:Rec):Prop:=
 S i=false∧∀ (j:Nat) (o':Oper) (c':Rec),l[j]? = some (o',c')→(j<i→Qln o' c' o c=true→S j=true)∧(i<j→Qln o c o' c'=true→S j=false)
theorem Fit.read {l:List (Oper×Rec)} {S:Nat→Bool} {i:Nat} {o:Oper} {c:Rec} (h:Fit l S i o c) {t:Tmp} (ht:t ∈ c.slots) (v:AV):valS l 0 S v t=valS l 0 (fun j=>decide (j<i)) v t:=by
 refine Ql5 l 0 v fun j p hj=>?_
 obtain ⟨o',c'⟩:=p
 (try simp only [Nat.zero_add])
 by_cases hd:o'.dst=some t
 ·simp only [hd,beq_self_eq_true,Bool.and_true]
  rcases Nat.lt_trichotomy j i with hlt | rfl | hgt
  ·rw [(h.2 j o' c' hj).1 hlt (Q0b hd ht)]; simp [hlt]
  ·rw [h.1]; simp
  ·rw [(h.2 j o' c' hj).2 hgt (Q0a hd ht)]; exact (decide_eq_false (by omega)).symm
 ·have e:(o'.dst==some t)=false:=by simpa using hd
  simp only [e,Bool.and_false]
theorem Fit.meet {l:List (Oper×Rec)} {S:Nat→Bool} {i:Nat} {o:Oper} {c:Rec} (h:Fit l S i o c) {n:Nat} (hn:n ∈ c.bl.map (·.1)) (s:Slot):Qj7 l 0 S s n=Qj7 l 0 (fun j=>decide (j<i)) s n:=by
 refine Qk6 l 0 s fun j p hj he=>?_
 obtain ⟨o',c'⟩:=p
 (try simp only [Nat.zero_add])
 rcases Nat.lt_trichotomy j i with hlt | rfl | hgt
 ·rw [(h.2 j o' c' hj).1 hlt (Q4y he hn)]; simp [hlt]
 ·rw [h.1]; simp
 ·rw [(h.2 j o' c' hj).2 hgt (Qtv he hn)]; exact (decide_eq_false (by omega)).symm
def Qeb (S:Nat→Bool) (i:Nat):Nat→Bool:=fun j=>S j||j==i
variable {ex : Option Nat} {P : Program} {ops : Array Oper} {l : List (Oper × Rec)} {regs regs' : List AV} {own own' : List Slot}
def SImp (s s':Slot):Prop:=∀ (X:Nat→Nat→Prop) (φ:Nat→FSlot) (w:World) (n:Nat),SlotOK X φ w n s→SlotOK X φ w n s'
def StepAt (P:Program) (l:List (Oper×Rec)) (own:List Slot) (o:Oper) (c:Rec):Prop:=∃ sf:List (Nat×Slot),Qcg P o c.rd (c.bl++sf) c.r c.eff∧∀ p ∈ sf,∀ S,SImp (Qj7 l 0 S (own.getD p.1 .unused) p.1) p.2
theorem StepAt.hard {P:Program} {l:List (Oper×Rec)} {own:List Slot} {o:Oper} {c:Rec} (h:Qcg P o c.rd c.bl c.r c.eff):StepAt P l own o c:=⟨[],by rw [List.append_nil]; exact h,by simp⟩
structure Facts (ex:Option Nat) (P:Program) (ops:Array Oper) (l:List (Oper×Rec)) (regs:List AV) (own:List Slot) (regs':List AV) (own':List Slot):Prop where
 hops:ops.toList=l.map (·.1)
 steps:∀ (i:Nat) (o:Oper) (c:Rec),l[i]? = some (o,c)→c.skip=false→ex ≠ some i→StepAt P l own o c
 met:runL l regs own=(l.map (fun p=>(p.2.rd.map (·.2),p.2.bl.map (·.2))),regs',own')
 look:Q2h ops l regs.length=true
theorem Facts.get (f:Facts ex P ops l regs own regs' own') {i:Nat} {o:Oper} (h:ops[i]? = some o):∃ c,l[i]? = some (o,c):=by
 have h1:ops.toList[i]? = some o:=by simpa using h
 rw [f.hops,List.getElem?_map] at h1
 cases hl:l[i]? with
 | none=>rw [hl] at h1; cases h1
 | some p=>rw [hl] at h1; obtain ⟨o',c⟩:=p; simp at h1; subst h1; exact ⟨c,rfl⟩
theorem Facts.at (f:Facts ex P ops l regs own regs' own') {i:Nat} {o:Oper} {c:Rec} (h:l[i]? = some (o,c)):ops[i]? = some o:=by
 have h1:ops.toList[i]? = some o:=by rw [f.hops,List.getElem?_map,h]; rfl
 simpa using h1
theorem Qpe {α β:Type} {f g:α→β}:∀ {l:List α},l.map f=l.map g→∀ x ∈ l,f x=g x
 | [],_,_,hx=>by cases hx
 | y::l,h,x,hx=>by
  simp only [List.map_cons,List.cons.injEq] at h
  rcases List.mem_cons.1 hx with rfl | hx
  ·exact h.1
  ·exact Qpe h.2 x hx
theorem Facts.rd (f:Facts ex P ops l regs own regs' own') {i:Nat} {o:Oper} {c:Rec} (h:l[i]? = some (o,c)):∀ p ∈ c.rd,p.2=match p.1 with | .tmp t=>(if t<regs.length then valS l 0 (fun j=>decide (j<i)) (regs.getD t .any) t else .any) | x=>opd regs x:=by
 have h1:=Qu7 l 0 regs own i o c h
 rw [f.met] at h1
 simp only [List.getElem?_map,h,Option.map_some,Option.some.injEq,Prod.mk.injEq,Nat.zero_add] at h1
 exact Qpe h1.1
theorem Facts.bl (f:Facts ex P ops l regs own regs' own') {i:Nat} {o:Oper} {c:Rec} (h:l[i]? = some (o,c)):∀ p ∈ c.bl,p.2=Qj7 l 0 (fun j=>decide (j<i)) (own.getD p.1 .unused) p.1:=by
 have h1:=Qu7 l 0 regs own i o c h
 rw [f.met] at h1
 simp only [List.getElem?_map,h,Option.map_some,Option.some.injEq,Prod.mk.injEq,Nat.zero_add] at h1
 exact Qpe h1.2
theorem Q83 {c:Rec} {t:Tmp} {v:AV} (h:(.tmp t,v) ∈ c.rd):t ∈ c.slots:=List.mem_filterMap.2 ⟨_,h,rfl⟩
theorem RInv.val {S:Nat→Bool} {φ:Nat→FSlot} {a:Act} {w:World} (h:RInv X φ0 w0 l regs own S φ a w) (f:Facts ex P ops l regs own regs' own') {i:Nat} {o:Oper} {c:Rec} (hi:l[i]? = some (o,c)) (fit:Fit l S i o c):∀ p ∈ c.rd,RelV X φ w p.2 (a.eval p.1):=by
 intro p hp
 rw [f.rd hi p hp]
 obtain ⟨x,v⟩:=p
 cases x with
 | tmp t=>
  dsimp only [Act.eval]
  by_cases ht:t<regs.length
  ·rw [if_pos ht,← fit.read (Q83 hp)]
   exact h.regs t ht
  ·rw [if_neg ht]; exact .any _
 | const v=>exact .lit v
 | global g=>exact .lit _
 | func f=>exact .fn _ _ _ _ _ rfl rfl (by simp) (by simp)
theorem RInv.blocks {S:Nat→Bool} {φ:Nat→FSlot} {a:Act} {w:World} (h:RInv X φ0 w0 l regs own S φ a w) (f:Facts ex P ops l regs own regs' own') {i:Nat} {o:Oper} {c:Rec} (hi:l[i]? = some (o,c)) (fit:Fit l S i o c):∀ p ∈ c.bl,SlotOK X φ w p.1 p.2:=by
 intro p hp
 rw [f.bl hi p hp,← fit.meet (List.mem_map.2 ⟨p,hp,rfl⟩)]
 exact h.slot p.1
theorem RInv.lt {S:Nat→Bool} {φ:Nat→FSlot} {a:Act} {w:World} (h:RInv X φ0 w0 l regs own S φ a w):∀ n b,(φ n).lies b→b<w.heap.size:=fun n _ hb=>(h.slot n).lt hb
theorem Qqh (a:Act) (d:Option Tmp) (v:Value) (t:Tmp) (ht:t<a.tmps.size):(a.put d v).tmps.getD t undef=if d==some t then v else a.tmps.getD t undef:=by
 cases d with
 | none=>rfl
 | some e=>
  simp only [Act.put,Array.getD_eq_getD_getElem?,Array.getElem?_setIfInBounds]
  by_cases h:e=t
  ·subst h; simp [ht]
  ·simp [h]
theorem Qve (a:Act) (d:Option Tmp) (v:Value):(a.put d v).tmps.size=a.tmps.size:=by cases d<;>simp [Act.put]
theorem Qo7 (a:Act) (d:Option Tmp) (v:Value):(a.put d v).defers=a.defers:=by cases d<;>rfl
theorem Qte {S:Nat→Bool} {i:Nat} {o:Oper} {c:Rec} (hi:l[i]? = some (o,c)) (fit:Fit l S i o c) (v:AV) (t:Tmp):valS l 0 (Qeb S i) v t=if o.dst==some t then c.r else valS l 0 S v t:=by
 by_cases hd:o.dst=some t
 ·simp only [hd,beq_self_eq_true,if_true]
  refine Qwt l 0 i v o c hi (by simp [Qeb]) hd fun j p hj hp=>?_
  obtain ⟨o',c'⟩:=p
  simp only [Nat.zero_add,Qeb]
  by_cases hd':o'.dst=some t
  ·rw [(fit.2 j o' c' hp).2 hj (Q94 hd hd')]
   have e:(j==i)=false:=by simp; omega
   simp [e]
  ·simp [hd']
 ·have e:(o.dst==some t)=false:=by simpa using hd
  rw [e]
  simp only [Bool.false_eq_true,if_false]
  refine Ql5 l 0 v fun j p hj=>?_
  simp only [Nat.zero_add,Qeb]
  by_cases hji:j=i
  ·subst hji
   rw [hi] at hj
   cases hj
   simp [e]
  ·have e':(j==i)=false:=by simpa using hji
   simp [e']
theorem Qza {S:Nat→Bool} {i:Nat} {o:Oper} {c:Rec} (hi:l[i]? = some (o,c)) (fit:Fit l S i o c) (heff:∀ n,n ∈ c.eff.map (·.1)→n ∈ c.bl.map (·.1)) (s:Slot) (n:Nat) :
  Qj7 l 0 (Qeb S i) s n=Qld n c.eff (Qj7 l 0 S s n):=by
 by_cases hm:n ∈ c.eff.map (·.1)
 ·refine Qtg l 0 i s _ o c hi (by simp [Qeb]) hm fun j p hj hp he=>?_
  obtain ⟨o',c'⟩:=p
  simp only [Nat.zero_add,Qeb]
  rw [(fit.2 j o' c' hp).2 hj (Qtv he (heff n hm))]
  have e:(j==i)=false:=by simp; omega
  simp [e]
 ·rw [Qib hm]
  refine Qk6 l 0 s fun j p hj he=>?_
  simp only [Nat.zero_add,Qeb]
  by_cases hji:j=i
  ·subst hji
   rw [hi] at hj
   cases hj
   exact absurd he hm
  ·have e':(j==i)=false:=by simpa using hji
   simp [e']
theorem Qq0 {φ:Nat→FSlot} {w:World} {a:Act} {j:Nat} {d:Tmp} {v:Value} (g1:(ops[j]?).bind (·.dst)=some d) (h:RelV X φ w (.lit v) (a.eval (.tmp d))):yielded ops a.tmps j=Qsb v:=by
 have hv:a.eval (.tmp d)=v:=by cases h; rfl
 simp only [yielded,g1,Option.bind_some]
 simp only [Act.eval,Array.getD_eq_getD_getElem?] at hv
 cases ht:a.tmps[d]? with
 | none=>rw [ht] at hv; subst hv; rfl
 | some u=>rw [ht] at hv; simp at hv; subst hv; cases u<;>rfl
theorem RInv.next {S:Nat→Bool} {φ:Nat→FSlot} {a:Act} {w:World} (h:RInv X φ0 w0 l regs own S φ a w) (f:Facts ex P ops l regs own regs' own') {i:Nat} {o:Oper} {c:Rec} (hi:l[i]? = some (o,c)) (fit:Fit l S i o c)
  {v:Value} {φ':Nat→FSlot} {w':World} (hr:RelV X φ' w' c.r v) (he:∀ p ∈ c.eff,SlotOK X φ' w' p.1 p.2) (hd:Qb9 φ') (hn:∀ n,n ∉ c.eff.map (·.1)→φ' n=φ n)
  (hb:∀ b,b<w.heap.size→(∀ p ∈ c.eff,¬ (φ p.1).lies b)→w'.heap[b]? = w.heap[b]?) (hev:Evo X φ w φ' w'):RInv X φ0 w0 l regs own (Qeb S i) φ' (a.put o.dst v) w':=by
 have hlook:=List.all_eq_true.1 f.look (o,c) (List.mem_of_getElem? hi)
 simp only [Bool.and_eq_true] at hlook
 obtain ⟨⟨hg,hdst⟩,heff0⟩:=hlook
 have heff:∀ n,n ∈ c.eff.map (·.1)→n ∈ c.bl.map (·.1):=fun n hn=>by
  obtain ⟨p,hp,rfl⟩:=List.mem_map.1 hn
  have:=List.all_eq_true.1 heff0 p hp
  obtain ⟨q,hq,e⟩:=List.any_eq_true.1 this
  exact List.mem_map.2 ⟨q,hq,by simpa using (beq_iff_eq.1 e).symm⟩
 refine ⟨h.low,Qo7 a o.dst v ▸ h.defers.evo hev,(Qve _ _ _).trans h.size,fun t ht=>?_,fun n=>?_,hd,fun b off hx=>Nat.lt_of_lt_of_le (h.hid b off hx) hev.size,h.evo.trans hev⟩
 ·rw [Qte hi fit,Qqh _ _ _ _ (by rw [h.size]; exact ht)]
  split
  ·exact hr
  ·exact (h.regs t ht).evo hev
 ·rw [Qza hi fit heff]
  by_cases hm:n ∈ c.eff.map (·.1)
  ·exact he _ (Qr7 hm)
  ·rw [Qib hm]
   refine (h.slot n).evo hev (hn n hm) fun b hb'=>hb b (h.lt n b hb') fun p hp hp'=>?_
   have e:=h.distinct n p.1 b hb' hp'
   exact hm (e ▸ List.mem_map.2 ⟨p,hp,rfl⟩)
theorem RInv.wants {S:Nat→Bool} {φ:Nat→FSlot} {a:Act} {w:World} (h:RInv X φ0 w0 l regs own S φ a w) (f:Facts ex P ops l regs own regs' own') {i:Nat} {o:Oper} {c:Rec} (hi:l[i]? = some (o,c)) (fit:Fit l S i o c) (hs':c.skip=false):Region.wanted o (yielded ops a.tmps)=true:=by
 have hlook:=List.all_eq_true.1 f.look (o,c) (List.mem_of_getElem? hi)
 simp only [Bool.and_eq_true] at hlook
 obtain ⟨⟨hg,hdst⟩,heff0⟩:=hlook
 have hval:=h.val f hi fit
 unfold Qvq at hg
 unfold Region.wanted
 cases hgu:o.guard with
 | none=>rfl
 | some g=>
  obtain ⟨j,want⟩:=g
  rw [hgu] at hg
  dsimp only at hg ⊢
  split at hg
  case h_2=>cases hg
  case h_1 d v rest hrd=>
   simp only [hs',Bool.and_eq_true,Bool.not_false,Bool.true_or,and_true,beq_iff_eq] at hg
   obtain ⟨g1,g2⟩:=hg
   rw [Qq0 g1 (hval (.tmp d,.lit v) (by rw [hrd]; simp))]
   cases hb:Qsb v with
   | none=>rw [hb] at g2; simp at g2
   | some b=>rw [hb] at g2; cases b<;>cases want<;>first | rfl | (simp at g2)
theorem RInv.step' {S:Nat→Bool} {φ:Nat→FSlot} {a:Act} {w:World} (h:RInv X φ0 w0 l regs own S φ a w) (f:Facts ex P ops l regs own regs' own') {i:Nat} {o:Oper} {c:Rec} (hi:l[i]? = some (o,c)) (fit:Fit l S i o c) (hx:ex ≠ some i)
  {K:Act→World→Prop} {Q:Exit→Act→World→Prop} {ro:Option Nat} (k:∀ v φ' w',RelV X φ' w' c.r v→(∀ p ∈ c.eff,SlotOK X φ' w' p.1 p.2)→Qb9 φ'→(∀ n,n ∉ c.eff.map (·.1)→φ' n=φ n)→(∀ b,b<w.heap.size→(∀ p ∈ c.eff,¬ (φ p.1).lies b)→w'.heap[b]? = w.heap[b]?)→Evo X φ w φ' w'→K (a.put o.dst v) w'):wpOpIn (FR ro) 0 P ops Q i K a w:=by
 have hlook:=List.all_eq_true.1 f.look (o,c) (List.mem_of_getElem? hi)
 simp only [Bool.and_eq_true] at hlook
 obtain ⟨⟨hg,hdst⟩,heff0⟩:=hlook
 have heff:∀ n,n ∈ c.eff.map (·.1)→n ∈ c.bl.map (·.1):=fun n hn=>by
  obtain ⟨p,hp,rfl⟩:=List.mem_map.1 hn
  have:=List.all_eq_true.1 heff0 p hp
  obtain ⟨q,hq,e⟩:=List.any_eq_true.1 this
  exact List.mem_map.2 ⟨q,hq,by simpa using (beq_iff_eq.1 e).symm⟩
 have hval:=h.val f hi fit
 unfold wpOpIn
 rw [f.at hi]
 dsimp only
 by_cases hs:c.skip=true
 ·-- left out
  have hw:Region.wanted o (yielded ops a.tmps)=false∧c.r.isUndef=true∧c.eff=[]:=by
   unfold Qvq at hg
   unfold Region.wanted
   cases hgu:o.guard with
   | none=>rw [hgu] at hg; simp [hs] at hg
   | some g=>
    obtain ⟨j,want⟩:=g
    rw [hgu] at hg
    dsimp only at hg ⊢
    split at hg
    case h_2=>cases hg
    case h_1 d v rest hrd=>
     simp only [hs,Bool.and_eq_true,Bool.not_true,Bool.false_or,List.isEmpty_iff,beq_iff_eq] at hg
     obtain ⟨⟨g1,g2⟩,g3,g4⟩:=hg
     refine ⟨?_,g3,g4⟩
     rw [Qq0 g1 (hval (.tmp d,.lit v) (by rw [hrd]; simp))]
     cases hb:Qsb v with
     | none=>simp
     | some b=>rw [hb] at g2; cases b<;>cases want<;>first | rfl | (simp at g2)
  rw [if_neg (by simp [hw.1])]
  have hu:c.r=.lit undef:=by
   have h1:=hw.2.1
   unfold AV.isUndef at h1
   split at h1
   ·rename_i vs hr
    rw [hr]
    have:vs = #[]:=by simpa using h1
    rw [this]; rfl
   ·cases h1
  exact ⟨fun _ _=>trivial,k undef φ w (by rw [hu]; exact .lit _) (by rw [hw.2.2]; simp) h.distinct (fun _ _=>rfl) (fun _ _ _=>rfl) Evo.refl⟩
 ·have hs':c.skip=false:=by simpa using hs
  have hw:Region.wanted o (yielded ops a.tmps)=true:=h.wants f hi fit hs'
  rw [if_pos hw]
  obtain ⟨sf,hst,hsf⟩:=f.steps i o c hi hs' hx
  refine hst X φ a w hval (fun p hp=>?_) h.distinct h.hid h.lt K Q k ro
  rcases List.mem_append.1 hp with hp | hp
  ·exact h.blocks f hi fit p hp
  ·exact hsf p hp S X φ w p.1 (h.slot p.1)
theorem RInv.step {S:Nat→Bool} {φ:Nat→FSlot} {a:Act} {w:World} (h:RInv X φ0 w0 l regs own S φ a w) (f:Facts ex P ops l regs own regs' own') {i:Nat} {o:Oper} {c:Rec} (hi:l[i]? = some (o,c)) (fit:Fit l S i o c) (hx:ex ≠ some i)
  {K:Act→World→Prop} {Q:Exit→Act→World→Prop} {ro:Option Nat} (k:∀ φ' a' w',RInv X φ0 w0 l regs own (Qeb S i) φ' a' w'→K a' w'):wpOpIn (FR ro) 0 P ops Q i K a w:=
 h.step' f hi fit hx fun _ φ' w' hr he hd hn hb hev=>k φ' _ w' (h.next f hi fit hr he hd hn hb hev)
theorem Qt9 {acc:List Nat} {k:Nat}:∀ (es:List Edge) (s:Nat),(es.foldl (fun s e=>if Region.binds .any e then s ||| (2 ^ e.on ||| acc.getD e.on 0) else s) s).testBit k=true→s.testBit k=true∨∃ e ∈ es,Region.binds .any e=true∧(k=e.on∨(acc.getD e.on 0).testBit k=true)
 | [],s,h=>.inl h
 | e::es,s,h=>by
  rw [List.foldl_cons] at h
  rcases Qt9 es _ h with h1 | ⟨e',he',hb,hk⟩
  ·by_cases hb:Region.binds .any e=true
   ·rw [if_pos hb,Nat.testBit_or,Nat.testBit_or,Nat.testBit_two_pow] at h1
    simp only [Bool.or_eq_true,decide_eq_true_eq] at h1
    rcases h1 with h1 | h1 | h1
    ·exact .inl h1
    ·exact .inr ⟨e,by simp,hb,.inl h1.symm⟩
    ·exact .inr ⟨e,by simp,hb,.inr h1⟩
   ·rw [if_neg hb] at h1
    exact .inl h1
  ·exact .inr ⟨e',List.mem_cons_of_mem _ he',hb,hk⟩
def Qlf (S:Nat→Bool) (o:Oper):Prop:=∀ e ∈ o.after.toList,Region.binds .any e=true→S e.on=true
theorem Qe6 {L:List (Oper×Rec)} {S:Nat→Bool} (closed:∀ (i:Nat) (o:Oper) (c:Rec),L[i]? = some (o,c)→S i=true→Qlf S o):∀ (l pre:List (Oper×Rec)) (acc:List Nat),L=pre++l→acc.length=pre.length →
  (∀ (i:Nat) (o:Oper) (c:Rec),i<pre.length→L[i]? = some (o,c)→Qlf S o→∀ k,(acc.getD i 0).testBit k=true→S k=true)→Qfy l pre acc=true →
  ∀ (i:Nat) (o:Oper) (c:Rec),pre.length≤i→L[i]? = some (o,c)→(∀ e ∈ o.after.toList,Region.binds .any e=true→e.on<i)∧(Qlf S o→∀ (j:Nat) (o':Oper) (c':Rec),j<i→L[j]? = some (o',c')→Qln o' c' o c=true→S j=true)
 | [],pre,acc,hL,_,_,_,i,o,c,hi,hget=>by
  subst hL
  rw [List.append_nil,List.getElem?_eq_none hi] at hget
  cases hget
 | (o1,c1)::l,pre,acc,hL,hlen,good,hok,i,o,c,hi,hget=>by
  simp only [Qfy,Bool.and_eq_true] at hok
  obtain ⟨⟨h1,h2⟩,h3⟩:=hok
  have hpre:L[pre.length]? = some (o1,c1):=by rw [hL]; simp
  have anc:Qlf S o1→∀ k,(Zep acc o1).testBit k=true→S k=true:=fun hp k hk=>by
   rcases Qt9 o1.after.toList 0 hk with h0 | ⟨e,he,hb,hke⟩
   ·simp at h0
   ·have hse:=hp e he hb
    rcases hke with rfl | hke
    ·exact hse
    ·have hlt:e.on<pre.length:=by
      have:=Array.all_eq_true'.1 h1 e (by simpa using he)
      simpa [hb] using this
     obtain ⟨p,hp'⟩:∃ p,L[e.on]? = some p:=⟨_,List.getElem?_eq_getElem (by rw [hL]; simp; omega)⟩
     obtain ⟨o2,c2⟩:=p
     exact good e.on o2 c2 hlt hp' (closed _ _ _ hp' hse) k hke
  by_cases hieq:i=pre.length
  ·subst hieq
   rw [hpre] at hget
   cases hget
   refine ⟨fun e he hb=>?_,fun hp j o' c' hj hj' hcl=>?_⟩
   ·have:=Array.all_eq_true'.1 h1 e (by simpa using he)
    simpa [hb] using this
   ·have hpj:pre[j]? = some (o',c'):=by
     rw [hL,List.getElem?_append_left hj] at hj'
     exact hj'
    have:=List.all_eq_true.1 h2 j (by simpa using hj)
    rw [hpj] at this
    simp only [hcl,Bool.not_true,Bool.or_false] at this
    exact anc hp j this
  ·refine Qe6 closed l (pre++[(o1,c1)]) (acc++[Zep acc o1]) (by rw [hL]; simp) (by simp [hlen]) (fun i' o' c' hi' hget' hp k hk=>?_) h3 i o c (by simp; omega) hget
   by_cases hlt:i'<pre.length
   ·refine good i' o' c' hlt hget' hp k ?_
    rwa [List.getD_eq_getElem?_getD,List.getElem?_append_left (by omega),← List.getD_eq_getElem?_getD] at hk
   ·have e:i'=pre.length:=by simp at hi'; omega
    subst e
    rw [hpre] at hget'
    cases hget'
    refine anc hp k ?_
    rwa [List.getD_eq_getElem?_getD,← hlen,List.getElem?_concat_length] at hk
theorem Qoj {p p':Nat→Bool}:∀ (l:List Nat),(∀ x ∈ l,p' x=true→p x=true)→∀ i ∈ l,p i=true→p' i=false→l.countP p'<l.countP p
 | [],_,_,hi,_,_=>by cases hi
 | y::l,h,i,hi,h1,h2=>by
  have hle:l.countP p'≤l.countP p:=List.countP_mono_left fun x hx hpx=>h x (List.mem_cons_of_mem _ hx) hpx
  rw [List.countP_cons,List.countP_cons]
  rcases List.mem_cons.1 hi with rfl | hi
  ·simp [h1,h2]; omega
  ·have:=Qoj l (fun x hx=>h x (List.mem_cons_of_mem _ hx)) i hi h1 h2
   have h0:=h y (by simp)
   cases hy:p' y
   ·simp; omega
   ·simp [h0 hy]; omega
theorem RInv.done {S:Nat→Bool} {φ:Nat→FSlot} {a:Act} {w:World} (h:RInv X φ0 w0 l regs own S φ a w) (f:Facts ex P ops l regs own regs' own') (hS:∀ i,i<l.length→S i=true):Sim X φ0 w0 φ ⟨regs',own'⟩ a w:=by
 obtain ⟨h1,h2,h3⟩:=Q17 l 0 regs own
 rw [f.met] at h1 h2 h3
 dsimp only at h1 h2 h3
 refine ⟨h.low,h.defers,h.size.trans h1.symm,fun t v hv=>?_,⟨fun n=>?_,h.distinct,h.hid⟩,h.evo⟩
 ·dsimp only at hv
  have ht:t<regs.length:=by
   have:=(List.getElem?_eq_some_iff.1 hv).1
   omega
  have h4:=h2 t ht
  rw [List.getD_eq_getElem?_getD,hv,Option.getD_some] at h4
  rw [h4,Ql5 l 0 _ (S':=S) fun j p hj=>by
   have:j<l.length:=(List.getElem?_eq_some_iff.1 hj).1
   simp [hS j this]]
  exact h.regs t ht
 ·have h4:=h3 n
  show SlotOK X φ w n (own'.getD n .unused)
  rw [h4,Qk6 l 0 _ (S':=S) fun j p hj _=>by
   have:j<l.length:=(List.getElem?_eq_some_iff.1 hj).1
   simp [hS j this]]
  exact h.slot n
theorem RInv.start {φ:Nat→FSlot} {a:Act} {w:World} (h:Sim X φ0 w0 φ ⟨regs,own⟩ a w):RInv X φ0 w0 l regs own (fun _=>false) φ a w:=
 ⟨h.low,h.defers,h.size,fun t ht=>by
  rw [Qnr l 0 _ fun j p _=>by simp]
  exact h.regs t _ (by simp [ht]),fun n=>by
  rw [Ql7 l 0 _ fun j p _ _=>rfl]
  exact h.env.slot n,h.env.distinct,h.env.hid,h.evo⟩
theorem Qk7 (f:Facts ex P ops l regs own regs' own') {Q:Exit→Act→World→Prop} {ro:Option Nat}:∀ (m i:Nat),i+m=l.length→(∀ j,i≤j→ex ≠ some j)→∀ (φ:Nat→FSlot) (a:Act) (w:World),RInv X φ0 w0 l regs own (fun j=>decide (j<i)) φ a w →
  (∀ φ' a' w',Sim X φ0 w0 φ' ⟨regs',own'⟩ a' w'→Q .normal a' w')→wpOpsIn (FR ro) 0 P ops Q (List.range' i m) a w
 | 0,i,him,_,φ,a,w,h,k=>k φ a w (h.done f fun j hj=>by simp; omega)
 | m+1,i,him,hx,φ,a,w,h,k=>by
  rw [List.range'_succ,wpOpsIn_cons]
  obtain ⟨p,hp⟩:∃ p,l[i]? = some p:=⟨_,List.getElem?_eq_getElem (by omega)⟩
  obtain ⟨o,c⟩:=p
  refine h.step f hp ⟨by simp,fun j o' c' hj=>⟨fun hlt _=>by simpa using hlt,fun hgt _=>by simp; omega⟩⟩ (hx i (Nat.le_refl _)) fun φ' a' w' h'=>Qk7 f m (i+1) (by omega) (fun j hj=>hx j (by omega)) φ' a' w' ?_ k
  have e:Qeb (fun j=>decide (j<i)) i=fun j=>decide (j<i+1):=by
   funext j
   simp only [Qeb]
   by_cases h1:j<i
   ·simp [h1]; omega
   ·by_cases h2:j=i
    ·subst h2; simp
    ·have:¬ j<i+1:=by omega
     simp [h1,h2,this]
  rwa [e] at h'
theorem Qlv (f:Facts ex P ops l regs own regs' own') (hord:Qfy l [] []=true) {Q:Exit→Act→World→Prop} {ro:Option Nat} (k:∀ φ' a' w',Sim X φ0 w0 φ' ⟨regs',own'⟩ a' w'→Q .normal a' w'):∀ (fuel:Nat) (listed:Array Bool),listed.size=ops.size→(List.range ops.size).countP (fun j=>!listed.getD j false)≤fuel →
  (∀ (i:Nat) (o:Oper) (c:Rec),l[i]? = some (o,c)→listed.getD i false=true→Qlf (fun j=>listed.getD j false) o)→(∀ j,ex=some j→listed.getD j false=true)→∀ (φ:Nat→FSlot) (a:Act) (w:World),RInv X φ0 w0 l regs own (fun j=>listed.getD j false) φ a w→wpAnyIn (FR ro) 0 P .any ops Q fuel listed a w:=by
 have hlen:l.length=ops.size:=by
  have:=congrArg List.length f.hops
  simpa using this.symm
 have fin:∀ (listed:Array Bool),listed.size=ops.size→(∀ (i:Nat) (o:Oper) (c:Rec),l[i]? = some (o,c)→listed.getD i false=true→Qlf (fun j=>listed.getD j false) o)→Region.ready .any ops listed=[]→∀ i,i<l.length→listed.getD i false=true:=by
  intro listed hsz closed hr i
  induction i using Nat.strongRecOn with
  | _ i ih=>
   intro hi
   cases hli:listed.getD i false with
   | true=>rfl
   | false=>
    exfalso
    obtain ⟨p,hp⟩:∃ p,l[i]? = some p:=⟨_,List.getElem?_eq_getElem hi⟩
    obtain ⟨o,c⟩:=p
    have h1:=(Qe6 closed l [] [] rfl rfl (fun _ _ _ h=>by simp at h) hord i o c (by simp) hp).1
    have hmem:i ∈ Region.ready .any ops listed:=by
     unfold Region.ready
     rw [List.mem_filter]
     refine ⟨by simp; omega,?_⟩
     rw [f.at hp]
     have hl':listed.getD i true=false:=by
      simp only [Array.getD_eq_getD_getElem?] at hli ⊢
      rw [Array.getElem?_eq_getElem (by omega)] at hli ⊢
      simpa using hli
     simp only [hl',Bool.not_false,Bool.true_and,Option.map_some,Option.getD_some]
     refine Array.all_eq_true'.2 fun e he=>?_
     cases hb:Region.binds .any e with
     | false=>simp
     | true=>
      have hlt:=h1 e (by simpa using he) hb
      simpa using ih e.on hlt (by omega)
    rw [hr] at hmem
    cases hmem
 intro fuel
 induction fuel with
 | zero=>
  intro listed hsz hc closed hex φ a w h
  have hall:∀ i,i<l.length→listed.getD i false=true:=fun i hi=>by
   have:=List.countP_eq_zero.1 (Nat.le_zero.1 hc) i (by simp; omega)
   simpa using this
  refine ⟨?_,k φ a w (h.done f hall)⟩
  unfold Region.ready
  rw [List.filter_eq_nil_iff]
  intro i hi
  have h1:=hall i (by simp at hi; omega)
  have hl':listed.getD i true=true:=by
   simp only [List.mem_range] at hi
   simp only [Array.getD_eq_getD_getElem?] at h1 ⊢
   rw [Array.getElem?_eq_getElem (by omega)] at h1 ⊢
   simpa using h1
  rw [hl']; simp
 | succ fuel ih=>
  intro listed hsz hc closed hex φ a w h
  refine ⟨fun hr=>k φ a w (h.done f (fin listed hsz closed hr)),fun i hi=>?_⟩
  unfold Region.ready at hi
  rw [List.mem_filter] at hi
  obtain ⟨hir,hi2⟩:=hi
  rw [List.mem_range] at hir
  simp only [Bool.and_eq_true,Bool.not_eq_true'] at hi2
  obtain ⟨hi2,hi3⟩:=hi2
  have hli:listed.getD i false=false:=by
   simp only [Array.getD_eq_getD_getElem?] at hi2 ⊢
   rw [Array.getElem?_eq_getElem (by omega)] at hi2 ⊢
   simpa using hi2
  obtain ⟨c,hp⟩:=f.get (Array.getElem?_eq_getElem hir)
  rw [Array.getElem?_eq_getElem hir] at hi3
  simp only [Option.map_some,Option.getD_some] at hi3
  generalize ops[i]=o at hp hi3
  have hpreds:Qlf (fun j=>listed.getD j false) o:=fun e he hb=>by
   have:=Array.all_eq_true'.1 hi3 e (by simpa using he)
   simpa [hb] using this
  have fit:Fit l (fun j=>listed.getD j false) i o c:=⟨hli,fun j o' c' hj=>⟨fun hlt hcl=>(Qe6 closed l [] [] rfl rfl (fun _ _ _ h=>by simp at h) hord i o c (by simp) hp).2 hpreds j o' c' hlt hj hcl,fun hgt hcl=>by
   cases hS:listed.getD j false with
   | false=>exact hS
   | true=>
    have:=(Qe6 closed l [] [] rfl rfl (fun _ _ _ h=>by simp at h) hord j o' c' (by simp) hj).2 (closed j o' c' hj hS) i o c hgt hp hcl
    rw [hli] at this
    cases this⟩⟩
  have eS:(fun j=>(listed.setIfInBounds i true).getD j false)=Qeb (fun j=>listed.getD j false) i:=by
   funext j
   simp only [Qeb,Array.getD_eq_getD_getElem?,Array.getElem?_setIfInBounds]
   by_cases e:i=j
   ·subst e; simp [hsz,hir]
   ·have:(j==i)=false:=by simp; omega
    simp [e,this]
  refine h.step f hp fit (fun e=>by rw [hex i e] at hli; cases hli) fun φ' a' w' h'=>ih _ (by simpa using hsz) ?_ ?_ (fun j e=>by rw [show (listed.setIfInBounds i true).getD j false=Qeb (fun j=>listed.getD j false) i j from congrFun eS j]; simp only [Qeb,hex j e,Bool.true_or]) φ' a' w' (by rw [eS]; exact h')
  ·have hlt:=Qoj (p:=fun j=>!listed.getD j false) (p':=fun j=>!(listed.setIfInBounds i true).getD j false) (List.range ops.size) (fun x _ hx=>by
    rw [show (listed.setIfInBounds i true).getD x false=Qeb (fun j=>listed.getD j false) i x from congrFun eS x] at hx
    simp only [Qeb,Bool.not_or,Bool.and_eq_true] at hx
    exact hx.1) i (by simpa using hir) (by simpa using hli) (by
    rw [show (listed.setIfInBounds i true).getD i false=Qeb (fun j=>listed.getD j false) i i from congrFun eS i]
    simp [Qeb])
   omega
  ·intro j o' c' hj hS e he hb
   have e1:(listed.setIfInBounds i true).getD j false=Qeb (fun j=>listed.getD j false) i j:=congrFun eS j
   have e2:(listed.setIfInBounds i true).getD e.on false=Qeb (fun j=>listed.getD j false) i e.on:=congrFun eS e.on
   show (listed.setIfInBounds i true).getD e.on false=true
   rw [e1] at hS
   rw [e2]
   simp only [Qeb,Bool.or_eq_true,beq_iff_eq] at hS ⊢
   rcases hS with hS | rfl
   ·exact .inl (closed j o' c' hj hS e he hb)
   ·rw [hp] at hj
    cases hj
    exact .inl (hpreds e he hb)
end
end Go.Proofs.YtmbhnllcfmiajaaGreat
namespace Go.Proofs.YtmbhnllcfmiajaaGreat
open Go.RowKit
section
variable (P : Program) (X : Nat → Nat → Prop) (φ0 : Nat → FSlot) (w0 : World)
def conc (Q:Exit→AS→Prop):Exit→Act→World→Prop:=fun e a w=>∃ φ s,Sim X φ0 w0 φ s a w∧Q e s
def AWp (ro:Option Nat) (c:Code) (Q:Exit→AS→Prop) (s:AS):Prop:=∀ φ a w,Sim X φ0 w0 φ s a w→c.wpIn (FR ro) 0 P (conc X φ0 w0 Q) a w
def Qsz (next:AS→Prop) (Q:Exit→AS→Prop):Exit→AS→Prop
 | .normal,s=>next s
 | e,s=>Q e s
def Qtx (id:Nat) (Q:Exit→AS→Prop):Exit→AS→Prop
 | .exit id',s=>if id'=id then Q .normal s else Q (.exit id') s
 | e,s=>Q e s
def Qnh (ro:Option Nat) (c:Code) (Q:Exit→AS→Prop) (n:Nat) (s:AS):Prop:=∀ φ a w,Sim X φ0 w0 φ s a w→Code.roundsIn (FR ro) 0 P c (conc X φ0 w0 Q) n a w
end
section
variable {P : Program} {X : Nat → Nat → Prop} {φ0 : Nat → FSlot} {w0 : World} {ro : Option Nat} {Q : Exit → AS → Prop} {s : AS}
theorem Qan (h:Q .normal s):AWp P X φ0 w0 ro .skip Q s:=fun φ _ _ hs=>wpIn_skip ⟨φ,s,hs,h⟩
theorem Qbi {id:Nat} (h:Q (.exit id) s):AWp P X φ0 w0 ro (.exit id) Q s:=fun φ _ _ hs=>wpIn_exit ⟨φ,s,hs,h⟩
theorem Qae (h:Q .ret s):AWp P X φ0 w0 ro .ret Q s:=fun φ _ _ hs=>wpIn_ret ⟨φ,s,hs,h⟩
theorem Qsd {x y:Code} (h:AWp P X φ0 w0 ro x (Qsz (AWp P X φ0 w0 ro y Q) Q) s):AWp P X φ0 w0 ro (.seq x y) Q s:=fun φ a w hs=>
 wpIn_seq (wpIn_mono (h φ a w hs) fun e a w ⟨φ',s',hs',hq⟩=>by
  cases e with
  | normal=>exact hq φ' a w hs'
  | _=>exact ⟨φ',s',hs',hq⟩)
theorem Q26 {c:Operand} {x y:Code} {t:Bool} (hc:opd s.regs c=.lit (.bool t)) (h:AWp P X φ0 w0 ro (if t then x else y) Q s):AWp P X φ0 w0 ro (.cond c x y) Q s:=fun φ a w hs=>by
 have hv:=hs.opd c
 rw [hc] at hv
 cases hv':a.eval c with
 | bool b=>rw [hv'] at hv; cases hv; exact wpIn_cond hv' (h φ a w hs)
 | _=>rw [hv'] at hv; cases hv
theorem Q25 {c:Operand} {x y:Code} (hc:opd s.regs c=.lit (.bool true)) (h:AWp P X φ0 w0 ro x Q s):AWp P X φ0 w0 ro (.cond c x y) Q s:=Q26 hc h
theorem Qx7 {c:Operand} {x y:Code} (hc:opd s.regs c=.lit (.bool false)) (h:AWp P X φ0 w0 ro y Q s):AWp P X φ0 w0 ro (.cond c x y) Q s:=Q26 hc h
theorem Qaj {id:Nat} {c:Code} (h:AWp P X φ0 w0 ro c (Qtx id Q) s):AWp P X φ0 w0 ro (.block id c) Q s:=fun φ a w hs=>
 wpIn_block (wpIn_mono (h φ a w hs) fun e a w ⟨φ',s',hs',hq⟩=>by
  cases e with
  | exit id'=>
   simp only [Exit.inBlock,Qtx] at hq ⊢
   split
   ·rw [if_pos (by assumption)] at hq; exact ⟨φ',s',hs',hq⟩
   ·rw [if_neg (by assumption)] at hq; exact ⟨φ',s',hs',hq⟩
  | _=>exact ⟨φ',s',hs',hq⟩)
theorem Qv0 {c:Code} (n:Nat) (h:Qnh P X φ0 w0 ro c Q n s):AWp P X φ0 w0 ro (.loop c) Q s:=fun φ a w hs=>wpIn_loop_rounds n (h φ a w hs)
theorem Qso {c:Code} {n:Nat} (h:AWp P X φ0 w0 ro c (Qsz (Qnh P X φ0 w0 ro c Q n) Q) s):Qnh P X φ0 w0 ro c Q (n+1) s:=fun φ a w hs=>
 wpIn_mono (h φ a w hs) fun e a w ⟨φ',s',hs',hq⟩=>by
  cases e with
  | normal=>exact hq φ' a w hs'
  | _=>exact ⟨φ',s',hs',hq⟩
theorem Qcb {τ:Type} {c:Code} (F:Nat→τ→Prop) (st:τ→AS) (base:∀ x,¬ F 0 x) (step:∀ n,(∀ x,F n x→Qnh P X φ0 w0 ro c Q n (st x))→∀ x,F (n+1) x→AWp P X φ0 w0 ro c (Qsz (Qnh P X φ0 w0 ro c Q n) Q) (st x)) (n:Nat) (x:τ) (h:F n x):AWp P X φ0 w0 ro (.loop c) Q (st x):=by
 refine Qv0 n ?_
 induction n generalizing x with
 | zero=>exact absurd h (base x)
 | succ n ih=>exact Qso (step n ih x h)
theorem Qt0 {id:Nat} {ops:Array Oper} (l:List (Oper×Rec)) {regs':List AV} {own':List Slot} (f:Facts none P ops l s.regs s.own regs' own') (h:Q .normal ⟨regs',own'⟩):AWp P X φ0 w0 ro (.region id ops false) Q s:=fun φ a w hs=>by
 have hlen:l.length=ops.size:=by
  have:=congrArg List.length f.hops
  simpa using this.symm
 refine wpIn_region ?_
 have:=Qk7 (ro:=ro) f ops.size 0 (by omega) (fun _ _ e=>by cases e) φ a w (by
  have:=RInv.start (l:=l) (regs:=s.regs) (own:=s.own) hs
  simpa using this) (Q:=conc X φ0 w0 Q) fun φ' a' w' hs'=>⟨φ',_,hs',h⟩
 rwa [← List.range_eq_range'] at this
theorem Sim.drawn {φ:Nat→FSlot} {a:Act} {w:World} (h:Sim X φ0 w0 φ s a w):Sim X φ0 w0 φ s a { w with drawn:=w.drawn+1 }:=by
 have e:Evo X φ w φ { w with drawn:=w.drawn+1 }:=⟨rfl,rfl,rfl,Nat.le_refl _,fun _ _ _=>rfl,fun _ h=>.inl h,fun b off hd=>⟨⟨hd.lt,hd.hid,hd.own,hd.tok,hd.far,hd.mat⟩,rfl⟩,fun _ h=>h,fun _ _ h=>.inl h,fun _ _ h=>.inr ⟨h,fun _ _ _=>rfl⟩,fun _ Y h=>.inr ⟨Y,h⟩,fun _ bs h=>.inr ⟨bs,h,.refl bs⟩,fun _ _ _ _=>.same rfl⟩
 exact ⟨h.low,h.defers.to fun _ _ hn=>⟨rfl,hn⟩,h.size,fun t v hv=>(h.regs t v hv).evo e,⟨fun n=>(h.env.slot n).evo e rfl (fun _ _=>rfl),h.env.distinct,h.env.hid⟩,h.evo.trans e⟩
theorem Qse {id:Nat} {ops:Array Oper} (hm:P.follows .mixedOrders=true) (l:List (Oper×Rec)) {regs':List AV} {own':List Slot} (f:Facts none P ops l s.regs s.own regs' own') (hord:Qfy l [] []=true) (h:Q .normal ⟨regs',own'⟩):AWp P X φ0 w0 ro (.region id ops true) Q s:=fun φ a w hs=>by
 refine wpIn_region_any hm (Qlv f hord (Q:=conc X φ0 w0 Q) (fun φ' a' w' hs'=>⟨φ',_,hs',h⟩) ops.size _ (by simp) ?_ ?_ (fun _ e=>by cases e) φ a _ ?_)
 ·exact Nat.le_trans List.countP_le_length (by simp)
 ·intro i o c hi hl
  simp only [Array.getD_eq_getD_getElem?,Array.getElem?_replicate] at hl
  split at hl<;>simp at hl
 ·have:=RInv.start (l:=l) (regs:=s.regs) (own:=s.own) hs.drawn
  have e:(fun j=>(Array.replicate ops.size false).getD j false)=fun _=>false:=by
   funext j
   simp only [Array.getD_eq_getD_getElem?,Array.getElem?_replicate]
   split<;>rfl
  rw [e]
  exact this
def Less (a b:AV):Prop:=∀ (X:Nat→Nat→Prop) (φ:Nat→FSlot) (w:World) (v:Value),RelV X φ w a v→RelV X φ w b v
theorem Less.rfl {a:AV}:Less a a:=fun _ _ _ _ h=>h
theorem Less.any {a:AV}:Less a .any:=fun _ _ _ v _=>.any v
def LessL:List AV→List AV→Prop
 | [],[]=>True
 | a::l,b::k=>Less a b∧LessL l k
 | _,_=>False
theorem LessL.length:∀ {l k:List AV},LessL l k→l.length=k.length
 | [],[],_=>_root_.rfl
 | _::_,_::_,h=>by simp [LessL.length h.2]
theorem LessL.get:∀ {l k:List AV},LessL l k→∀ (t:Nat) (b:AV),k[t]? = some b→∃ a,l[t]? = some a∧Less a b
 | [],[],_,_,_,hb=>by simp at hb
 | _::_,_::_,h,0,b,hb=>by simp at hb; subst hb; exact ⟨_,_root_.rfl,h.1⟩
 | _::_,_::_,h,t+1,b,hb=>by simpa using LessL.get h.2 t b (by simpa using hb)
theorem Sim.less {φ:Nat→FSlot} {a:Act} {w:World} (h:Sim X φ0 w0 φ s a w) {regs':List AV} (hl:LessL s.regs regs'):Sim X φ0 w0 φ ⟨regs',s.own⟩ a w:=
 ⟨h.low,h.defers,h.size.trans hl.length,fun t v hv=>by
  obtain ⟨u,hu,hlu⟩:=hl.get t v hv
  exact hlu _ _ _ _ (h.regs t u hu),h.env,h.evo⟩
theorem Zek {c:Code} {regs':List AV} (hl:LessL s.regs regs') (h:AWp P X φ0 w0 ro c Q ⟨regs',s.own⟩):AWp P X φ0 w0 ro c Q s:=fun φ a w hs=>h φ a w (hs.less hl)
end
inductive NLt (k:Nat):AV→Prop where
 | any:NLt k .any
 | lit (v:Value):NLt k (.lit v)
 | agg (l:List AV) (h:∀ a ∈ l,NLt k a):NLt k (.agg l)
 | tup (l:List AV) (h:∀ a ∈ l,NLt k a):NLt k (.tup l)
 | fn (f:Fn) (l c:List AV) (h:∀ a ∈ l,NLt k a) (h':∀ a ∈ c,NLt k a):NLt k (.fn f l c)
 | dat (m:Nat) (xs:List (List AV)) (h:∀ x ∈ xs,∀ a ∈ x,NLt k a):NLt k (.dat m xs)
 | dptr (cs:List AV) (i:Nat) (h:∀ a ∈ cs,NLt k a):NLt k (.dptr cs i)
 | ref (n m j i:Nat) (h:n<k):NLt k (.ref n m j i)
 | own (n m j len:Nat) (h:n<k):NLt k (.own n m j len)
 | acc (n:Nat) (ty:TypeId) (m:Nat) (xs:List (List AV)) (h:n<k) (h':∀ x ∈ xs,∀ a ∈ x,NLt k a):NLt k (.acc n ty m xs)
 | gro (n:Nat) (ty:TypeId) (m len:Nat) (h:n<k):NLt k (.gro n ty m len)
 | row (n q m j len:Nat) (h:n<k):NLt k (.row n q m j len)
 | rowp (n q m j i:Nat) (h:n<k):NLt k (.rowp n q m j i)
 | mp (n:Nat) (h:n<k):NLt k (.mp n)
section
variable {X X' : Nat → Nat → Prop} {φ φ' : Nat → FSlot} {w : World}
theorem DatOK.env {m:Nat} {xs:List (List AV)} {A:Option Addr} {len cap:Nat} {g:Nat→Nat→Value} (h:DatOK X φ w m xs A len cap g) (hd:∀ b off,DataAt X φ w b off→DataAt X' φ' w b off):DatOK X' φ' w m xs A len cap g:=
 ⟨h.hlen,h.hcap,h.hmost,h.hsize,fun hx=>by
  obtain ⟨b,o,hA,hc⟩:=h.hcells hx
  exact ⟨b,o,hA,fun j x hj i hi=>⟨hd _ _ (hc j x hj i hi).1,(hc j x hj i hi).2⟩⟩⟩
theorem RelV.env {k:Nat} (hφ:∀ n,n<k→φ' n=φ n) (hd:∀ b off,DataAt X φ w b off→DataAt X' φ' w b off) {a:AV} {v:Value} (h:RelV X φ w a v):NLt k a→RelV X' φ' w a v:=by
 induction h with
 | any v=>exact fun _=>.any v
 | lit v=>exact fun _=>.lit v
 | agg l vs hs _ ih=>
  intro hn
  cases hn with
  | agg _ hn=>exact .agg l vs hs fun i a hi=>ih i a hi (hn a (List.mem_of_getElem? hi))
 | tup l vs hs _ ih=>
  intro hn
  cases hn with
  | tup _ hn=>exact .tup l vs hs fun i a hi=>ih i a hi (hn a (List.mem_of_getElem? hi))
 | fn f first cap us vs hu hv _ _ ih1 ih2=>
  intro hn
  cases hn with
  | fn _ _ _ h1 h2=>exact .fn f first cap us vs hu hv (fun i a hi=>ih1 i a hi (h1 a (List.mem_of_getElem? hi))) (fun i a hi=>ih2 i a hi (h2 a (List.mem_of_getElem? hi)))
 | dat m xs A len cap g ok _ ih=>
  intro hn
  cases hn with
  | dat _ _ hn=>exact .dat m xs A len cap g (ok.env hd) fun j x hj i a hi=>ih j x hj i a hi (hn x (List.mem_of_getElem? hj) a (List.mem_of_getElem? hi))
 | dptr cs i b o g hc _ ih=>
  intro hn
  cases hn with
  | dptr _ _ hn=>exact .dptr cs i b o g (fun k hk=>⟨hd _ _ (hc k hk).1,(hc k hk).2⟩) fun j a hj=>ih j a hj (hn a (List.mem_of_getElem? hj))
 | ref n m j i A hn0 h=>
  intro hn
  cases hn with
  | ref _ _ _ _ hlt=>exact .ref n m j i A (by rw [hφ n hlt]; exact hn0) (by rw [hφ n hlt]; exact h)
 | own n m j len A cap hc hm hn0 h=>
  intro hn
  cases hn with
  | own _ _ _ _ hlt=>exact .own n m j len A cap hc hm (by rw [hφ n hlt]; exact hn0) (by rw [hφ n hlt]; exact h)
 | acc n ty m xs A len cap g ok _ hn0 ht ih=>
  intro hn
  cases hn with
  | acc _ _ _ _ hlt hn=>exact .acc n ty m xs A len cap g (ok.env hd) (fun j x hj i a hi=>ih j x hj i a hi (hn x (List.mem_of_getElem? hj) a (List.mem_of_getElem? hi))) (by rw [hφ n hlt]; exact hn0) (by rw [hφ n hlt]; exact ht)
 | gro n ty m len A cap hc hm hn0 hv h=>
  intro hn
  cases hn with
  | gro _ _ _ _ hlt=>exact .gro n ty m len A cap hc hm (by rw [hφ n hlt]; exact hn0) (by rw [hφ n hlt]; exact hv) (by rw [hφ n hlt]; exact h)
 | row n q m j len A cap hc hm hn0 h=>
  intro hn
  cases hn with
  | row _ _ _ _ _ hlt=>exact .row n q m j len A cap hc hm (by rw [hφ n hlt]; exact hn0) (by rw [hφ n hlt]; exact h)
 | rowp n q m j i A hn0 h=>
  intro hn
  cases hn with
  | rowp _ _ _ _ _ hlt=>exact .rowp n q m j i A (by rw [hφ n hlt]; exact hn0) (by rw [hφ n hlt]; exact h)
 | mp n A hn0 h=>
  intro hn
  cases hn with
  | mp _ hlt=>exact .mp n A (by rw [hφ n hlt]; exact hn0) (by rw [hφ n hlt]; exact h)
end
inductive SNLt (k:Nat):Slot→Prop where
 | unused:SNLt k .unused
 | dead:SNLt k .dead
 | tok:SNLt k .tok
 | own (m:Nat) (xs:List (List AV)) (h:∀ x ∈ xs,∀ a ∈ x,NLt k a):SNLt k (.own m xs)
 | gro (m:Nat) (xs:List (List AV)) (h:∀ x ∈ xs,∀ a ∈ x,NLt k a):SNLt k (.gro m xs)
 | far (J:(Nat→Nat→Prop)→(Nat→Nat→Prop)→World→Prop):SNLt k (.far J)
 | mat (m:Nat) (rows:List (List (List AV))) (h:∀ r ∈ rows,∀ x ∈ r,∀ a ∈ x,NLt k a):SNLt k (.mat m rows)
 | mp (es:Array MapEntry) (clock:Nat):SNLt k (.mp es clock)
def Spec (P:Program) (f:FuncId) (args:List AV) (σ:List Slot) (res:AV) (σ':List Slot):Prop:=
 ∀ (X:Nat→Nat→Prop) (φ:Nat→FSlot) (w:World) (vals:Array Value),vals.size=args.length→(∀ i v,args[i]? = some v→RelV X φ w v (vals.getD i undef))→EnvOK X φ w (fun n=>σ.getD n .unused) →
  Calls P f vals w fun e w'=>∃ v φ',e=.returned v∧RelV X φ' w' res v∧EnvOK X φ' w' (fun n=>σ'.getD n .unused)∧Evo X φ w φ' w'
def Zaw (C:Array Value→World→(Ending→World→Prop)→Prop) (E:Value→Ending→Prop) (args:List AV) (σ:List Slot) (res:AV) (σ':List Slot):Prop:=
 ∀ (X:Nat→Nat→Prop) (φ:Nat→FSlot) (w:World) (vals:Array Value),vals.size=args.length→(∀ i v,args[i]? = some v→RelV X φ w v (vals.getD i undef))→EnvOK X φ w (fun n=>σ.getD n .unused) →
  C vals w fun e w'=>∃ v φ',E v e∧RelV X φ' w' res v∧EnvOK X φ' w' (fun n=>σ'.getD n .unused)∧Evo X φ w φ' w'
def Qtj (a:Act):ResultVar→Sem Value
 | .tmp t=>pure (a.tmps.getD t undef)
 | .cell ad t=>do loadVar t (← asAddr (a.tmps.getD ad undef))
theorem Q4e (fn:Func) (a:Act):results fn a.tmps=(fn.results.mapM (Qtj a)) >>= fun vs=>pure (if h:vs.size=1 then vs[0] else .tuple vs):=by
 unfold results
 congr 1
def Q5f (P:Program) (s:AS) (rv:ResultVar) (v:AV):Prop:=
 ∀ (X:Nat→Nat→Prop) (φ0:Nat→FSlot) (w0:World) (φ:Nat→FSlot) (a:Act) (w:World),Sim X φ0 w0 φ s a w→∃ u,(Qtj a rv).run P w=.ok u w∧RelV X φ w v u
def ResL (P:Program) (s:AS):List ResultVar→List AV→Prop
 | [],[]=>True
 | r::l,v::k=>Q5f P s r v∧ResL P s l k
 | _,_=>False
theorem Q8l {P:Program} {s:AS} {t:Tmp} {v:AV} (h:s.regs.getD t .any=v):Q5f P s (.tmp t) v:=fun _ _ _ _ _ _ hs=>⟨_,rfl,h ▸ hs.opd (.tmp t)⟩
theorem Q2g {P:Program} {α:Type} (f:α→Sem Value) (w:World):∀ (l:List α) (us:List Value),l.length=us.length→(∀ (i:Nat) x u,l[i]? = some x→us[i]? = some u→(f x).run P w=.ok u w)→(l.mapM f).run P w=.ok us w
 | [],[],_,_=>rfl
 | x::l,u::us,hl,h=>by
  have h0:=h 0 x u rfl rfl
  have ih:=Q2g f w l us (by simpa using hl) fun i y v hy hv=>h (i+1) y v (by simpa using hy) (by simpa using hv)
  simp only [List.mapM_cons,Sem.run_bind,h0,Result.andThen_ok,ih]
  rfl
 | [],_::_,hl,_=>by simp at hl
 | _::_,[],hl,_=>by simp at hl
def Qw2:List AV→AV
 | [v]=>v
 | l=>.tup l
theorem Qzl {P:Program} {X:Nat→Nat→Prop} {φ0 φ:Nat→FSlot} {w0 w:World} {s:AS} {a:Act} (hs:Sim X φ0 w0 φ s a w) (fn:Func) (vs:List AV) (h:ResL P s fn.results.toList vs):∃ v,(results fn a.tmps).run P w=.ok v w∧RelV X φ w (Qw2 vs) v:=by
 have key:∀ (l:List ResultVar) (vs:List AV),ResL P s l vs→∃ us:List Value,us.length=vs.length∧l.length=us.length∧(∀ (i:Nat) r u,l[i]? = some r→us[i]? = some u→(Qtj a r).run P w=.ok u w)∧(∀ (i:Nat) v u,vs[i]? = some v→us[i]? = some u→RelV X φ w v u):=by
  intro l
  induction l with
  | nil=>
   intro vs h
   cases vs with
   | nil=>exact ⟨[],rfl,rfl,by simp,by simp⟩
   | cons=>exact h.elim
  | cons r l ih=>
   intro vs h
   cases vs with
   | nil=>exact h.elim
   | cons v k=>
    obtain ⟨u,hu,hr⟩:=h.1 X φ0 w0 φ a w hs
    obtain ⟨us,h1,h2,h3,h4⟩:=ih k h.2
    refine ⟨u::us,by simp [h1],by simp [h2],fun i r' u' hr' hu'=>?_,fun i v' u' hv' hu'=>?_⟩
    ·cases i with
     | zero=>simp at hr' hu'; subst hr' hu'; exact hu
     | succ i=>exact h3 i r' u' (by simpa using hr') (by simpa using hu')
    ·cases i with
     | zero=>simp at hv' hu'; subst hv' hu'; exact hr
     | succ i=>exact h4 i v' u' (by simpa using hv') (by simpa using hu')
 obtain ⟨us,h1,h2,h3,h4⟩:=key _ vs h
 have hm:=Q2g (P:=P) (Qtj a) w fn.results.toList us h2 h3
 have hrun:(results fn a.tmps).run P w=.ok (if h:us.toArray.size=1 then us.toArray[0] else .tuple us.toArray) w:=by
  rw [Q4e,← Array.toArray_toList (xs:=fn.results),List.mapM_toArray]
  simp only [Sem.run_bind]
  have:(Functor.map List.toArray (fn.results.toList.mapM (Qtj a))).run P w=.ok us.toArray w:=by
   rw [map_eq_pure_bind]
   simp only [Sem.run_bind,hm,Result.andThen_ok]
   rfl
  rw [this]
  simp only [Result.andThen_ok]
  rfl
 refine ⟨_,hrun,?_⟩
 have tup:RelV X φ w (.tup vs) (.tuple us.toArray):=.tup vs _ (by simp [h1]) fun i v hv=>by
  have:i<us.length:=by rw [h1]; exact (List.getElem?_eq_some_iff.1 hv).1
  have:=h4 i v _ hv (List.getElem?_eq_getElem this)
  simpa [Array.getD_eq_getD_getElem?,List.getElem?_eq_getElem ‹i<us.length›] using this
 cases vs with
 | nil=>
  cases us with
  | nil=>simpa [Qw2] using tup
  | cons=>simp at h1
 | cons v vs=>
  cases us with
  | nil=>simp at h1
  | cons u us=>
   cases vs with
   | nil=>
    cases us with
    | nil=>simpa [Qw2] using h4 0 v u rfl rfl
    | cons=>simp at h1
   | cons v' vs=>
    cases us with
    | nil=>simp at h1
    | cons u' us=>simpa [Qw2] using tup
structure Fin (P:Program) (fn:Func) (k:Nat) (res:AV) (σ':List Slot) (s:AS):Prop where
 vals:∃ vs,ResL P s fn.results.toList vs∧res=Qw2 vs
 names:NLt k res
 len:σ'.length≤k
 slots:∀ n,n<k→σ'.getD n .unused=s.slot n∧SNLt k (s.slot n)
def finA (P:Program) (fn:Func) (k:Nat) (res:AV) (σ':List Slot):Exit→AS→Prop
 | .normal,s | .ret,s=>Fin P fn k res σ' s
 | _,_=>False
theorem Evo.turn {X:Nat→Nat→Prop} {φ0 φ:Nat→FSlot} {w0 w w':World} {row:Option Nat} (h:Evo X φ0 w0 φ w) (low:∀ n b,(φ0 n).lies b→b<w0.heap.size) (hg:w.grownBy w' row) (hr:∀ r,row=some r→w0.heap.size≤r) (e:Evo0 X φ w φ w'):Evo X φ0 w0 φ w':=by
 have key:∀ b,b<w0.heap.size→w'.heap[b]? = w.heap[b]? := fun b hb=>hg.block b (Nat.lt_of_lt_of_le hb h.size) fun e'=>by
  have:=hr b e'.symm
  omega
 refine ⟨e.os.trans h.os,e.tape.trans h.tape,e.output.trans h.output,Nat.le_trans h.size e.size,fun b hb hn=>(key b hb).trans (h.blk b hb hn),h.new,fun b off hd=>?_,h.dead,h.own,fun n t hn=>?_,h.far,h.mat,fun n b hn hn'=>(h.shape n b hn hn').trans (.same (key b (low n b (.own hn))))⟩
 ·obtain ⟨h1,h2⟩:=h.dat b off hd
  obtain ⟨e1,e2⟩:=e.dat b off h1
  exact ⟨e1,e2.trans h2⟩
 ·rcases h.tok n t hn with h1 | ⟨h1,h2⟩
  ·exact .inl h1
  ·exact .inr ⟨h1,fun b L hb=>(key b (low n b (.tok (by rw [hn,hb])))).trans (h2 b L hb)⟩
theorem Sim.turn {X:Nat→Nat→Prop} {φ0 φ:Nat→FSlot} {w0 w w':World} {s:AS} {a:Act} {row:Option Nat} (h:Sim X φ0 w0 φ s a w) (hg:w.grownBy w' row) (hr:∀ r,row=some r→w0.heap.size≤r∧¬ Qi7 φ r∧(∃ o:Obj,w.heap[r]? = some o∧o.isCells=false)∧∃ o:Obj,w'.heap[r]? = some o∧o.isCells=false) {ds:List Deferred} (hd:Marks φ w0 w' ds):Sim X φ0 w0 φ s { a with defers:=ds } w':=by
 have hc:∀ n b,(φ n).lies b→b<w.heap.size:=fun n b hb=>(h.env.slot n).lt hb
 have e:Evo0 X φ w φ w':=Q9o hg (fun r hr'=>(hr r hr').2) hc
 exact ⟨h.low,hd,h.size,fun t v hv=>(h.regs t v hv).evo0 e,⟨fun n=>(h.env.slot n).evo0 e rfl fun b hb=>hg.block b (hc n b hb) fun e'=>(hr b e'.symm).2.1 ⟨n,hb⟩,h.env.distinct,fun b off hx=>Nat.lt_of_lt_of_le (h.env.hid b off hx) hg.size⟩,h.evo.turn h.low hg (fun r hr'=>(hr r hr').1) e⟩
theorem Qz4 {P:Program} {fn:Func} {X:Nat→Nat→Prop} {φ φ':Nat→FSlot} {w0 w':World} {s:AS} {a:Act} {k:Nat} {res:AV} {σ':List Slot} (hk:∀ n,k≤n→φ n=.unused) (hs:Sim X φ w0 φ' s a w') (hq:Fin P fn k res σ' s) :
  ∃ v,(results fn a.tmps).run P w'=.ok v w'∧∃ v' φ'',Ending.returned v=.returned v'∧RelV X φ'' w' res v'∧EnvOK X φ'' w' (fun n=>σ'.getD n .unused)∧Evo X φ w0 φ'' w':=by
 obtain ⟨vs,hvs,rfl⟩:=hq.vals
 obtain ⟨v,hv,hr⟩:=Qzl hs fn vs hvs
 have gt:∀ (n:Nat) (f:FSlot),(if n<k then φ' n else FSlot.unused)=f→f ≠ .unused→φ' n=f:=fun n f e hf=>by
  split at e
  ·exact e
  ·exact absurd e.symm hf
 have fw:∀ b off,DataAt X φ' w' b off→DataAt X (fun n=>if n<k then φ' n else .unused) w' b off:=fun b off hd=>⟨hd.lt,hd.hid,fun n hn=>hd.own n (gt n _ hn (by simp)),fun n L hn=>hd.tok n L (gt n _ hn (by simp)),fun n Y hn=>hd.far n Y (gt n _ hn (by simp)),fun n bs k hn=>hd.mat n bs k (gt n _ hn (by simp))⟩
 have inv:∀ n b,(if n<k then φ' n else FSlot.unused).lies b→n<k∧(φ' n).lies b:=fun n b hb=>by
  split at hb
  ·exact ⟨by assumption,hb⟩
  ·exact (Qdp hb).elim
 refine ⟨v,hv,v,fun n=>if n<k then φ' n else .unused,rfl,hr.env (k:=k) (fun n hn=>by simp [hn]) fw hq.names,⟨fun n=>?_,fun n n' b h1 h2=>hs.env.distinct n n' b (inv n b h1).2 (inv n' b h2).2,hs.env.hid⟩,?_⟩
 ·by_cases hn:n<k
  ·obtain ⟨h1,h2⟩:=hq.slots n hn
   (try dsimp only)
   rw [h1]
   have h3:=hs.env.slot n
   generalize s.slot n=sl at h2 h3
   have en:(if n<k then φ' n else FSlot.unused)=φ' n:=if_pos hn
   have row:∀ (b m:Nat) (xs:List (List AV)),(∀ x ∈ xs,∀ a ∈ x,NLt k a)→OwnOK X φ' w' b m xs→OwnOK X (fun n=>if n<k then φ' n else .unused) w' b m xs:=fun b m xs hx ⟨⟨cur,ty,c1,c2,c3,c4⟩,c5⟩=>
    ⟨⟨cur,ty,c1,c2,c3,fun j x hj i a hi=>(c4 j x hj i a hi).env (k:=k) (fun n hn=>by simp [hn]) fw (hx x (List.mem_of_getElem? hj) a (List.mem_of_getElem? hi))⟩,c5⟩
   cases h2 with
   | unused=>show (if n<k then φ' n else _)=_; rw [if_pos hn]; exact h3
   | dead=>show (if n<k then φ' n else _)=_; rw [if_pos hn]; exact h3
   | tok=>
    obtain ⟨t,ht,ht'⟩:=h3
    exact ⟨t,en.trans ht,ht'⟩
   | own m xs hx=>
    obtain ⟨b,hb',hok⟩:=h3
    exact ⟨b,en.trans hb',row b m xs hx hok⟩
   | gro m xs hx=>
    rcases h3 with ⟨h3,h4⟩ | ⟨b,hb',hok⟩
    ·exact .inl ⟨h3,en.trans h4⟩
    ·exact .inr ⟨b,en.trans hb',row b m xs hx hok⟩
   | far J=>
    obtain ⟨Y,D,B,f1,f2,f3⟩:=h3
    exact ⟨Y,D,B,en.trans f1,f2,f3.own,fun b off hx hy=>⟨fw b off (f3.dat b off hx hy).1,(f3.dat b off hx hy).2⟩,f3.os,f3.tape,f3.output,f3.size⟩
   | mat m rows hx=>
    obtain ⟨bs,m1,m2,m3,m4⟩:=h3
    refine ⟨bs,en.trans m1,m2,m3,fun k xs hk=>?_⟩
    rcases m4 k xs hk with m5 | ⟨b,m5,m6⟩
    ·exact .inl m5
    ·exact .inr ⟨b,m5,row b m xs (hx xs (List.mem_of_getElem? hk)) m6⟩
   | mp es clock=>
    obtain ⟨b,hb',hok⟩:=h3
    exact ⟨b,en.trans hb',hok⟩
  ·have e:σ'.getD n .unused=.unused:=by
    have:=hq.len
    simp [List.getElem?_eq_none (show σ'.length≤n by omega)]
   (try dsimp only)
   rw [e]
   show (if n<k then φ' n else _)=_
   rw [if_neg hn]
 ·have ev:=hs.evo
  have lk:∀ n,φ n ≠ .unused→n<k:=fun n hn=>by
   rcases Nat.lt_or_ge n k with h | h
   ·exact h
   ·exact absurd (hk n h) hn
  refine ⟨ev.os,ev.tape,ev.output,ev.size,ev.blk,fun b ⟨n,hb'⟩=>ev.new b ⟨n,(inv n b hb').2⟩,fun b off hd=>?_,fun n hn=>?_,fun n b hn=>?_,fun n t hn=>?_,fun n Y hn=>?_,fun n bs hn=>?_,fun n b hn hn'=>?_⟩
  ·obtain ⟨h1,h2⟩:=ev.dat b off hd
   exact ⟨fw b off h1,h2⟩
  all_goals
   have hnk:n<k:=lk n (by rw [hn]; simp)
   (try simp only [hnk,if_true])
  ·exact ev.dead n hn
  ·exact ev.own n b hn
  ·exact ev.tok n t hn
  ·exact ev.far n Y hn
  ·exact ev.mat n bs hn
  ·simp only [hnk,if_true] at hn'
   exact ev.shape n b hn hn'
theorem Ql0 {P:Program} {fn:Func} {X:Nat→Nat→Prop} {φ φ':Nat→FSlot} {w0 w':World} {s:AS} {a:Act} {R:Ending→World→Prop} {u:FrameMode} (hu:u ≠ .run) (hs:Sim X φ w0 φ' s a w')
  (K:∀ w'',Sim X φ w0 φ' s { a with defers:=Qom w0 } w''→LeavesInM (FR none) 0 P fn a.tmps R (Qom w0) u w''):LeavesInM (FR none) 0 P fn a.tmps R a.defers u w':=by
 have leave:∀ (l:List Nat) (w':World),l.Nodup→(∀ D ∈ l,w0.heap.size≤D∧w'.heap[D]? = some (.deferred (some []))∧¬ Qi7 φ' D)→Sim X φ w0 φ' s { a with defers:=Qom w0 } w' →
   LeavesInM (FR none) 0 P fn a.tmps R (l.map (fun D=>{ target:=.collected D,args := #[] })++Qom w0) u w':=by
  intro l
  induction l with
  | nil=>
   intro w' _ _ hs
   exact K w' hs
  | cons D l ih=>
   intro w' hn hD hs
   have h1:=hD D (by simp)
   have hlt:D<w'.heap.size:=(Array.getElem?_eq_some_iff.1 h1.2.1).1
   refine ⟨hu,.inl ⟨D,w'.putObj D (.deferred none),rfl,run_takeDeferred h1.2.1,ih _ (List.nodup_cons.1 hn).2 (fun D' h'=>⟨(hD D' (List.mem_cons_of_mem _ h')).1,?_,(hD D' (List.mem_cons_of_mem _ h')).2.2⟩) ?_⟩⟩
   ·have hne:D' ≠ D:=fun e=>(List.nodup_cons.1 hn).1 (e ▸ h')
    exact (World.putObj_heap_other (fun e=>hne e)).trans (hD D' (List.mem_cons_of_mem _ h')).2.1
   ·exact hs.turn (grownBy_putObj' w' D _) (fun r e=>by
     cases e
     exact ⟨h1.1,h1.2.2,⟨_,h1.2.1,rfl⟩,_,World.putObj_heap_same hlt,rfl⟩) (.base _ _ _)
 obtain ⟨l,hl1,_,hl2,hl3⟩:=hs.defers
 rw [hl1]
 exact leave l w' hl2 hl3 ⟨hs.low,.base _ _ _,hs.size,hs.regs,hs.env,hs.evo⟩
theorem Qny {X:Nat→Nat→Prop} {φ:Nat→FSlot} {w:World} {vals:Array Value} {args:List AV} {σ:List Slot} {n k:Nat} (hk:k≤1) (hsz:vals.size=args.length) (hargs:∀ i v,args[i]? = some v→RelV X φ w v (vals.getD i undef)) (henv:EnvOK X φ w (fun n=>σ.getD n .unused)) :
  Sim X φ { w with drawn:=k } φ ⟨args++List.replicate (n - args.length) .any,σ⟩ { tmps:=vals++Array.replicate (n - vals.size) undef,defers:=[] } w:=by
 refine ⟨fun n b hb=>(henv.slot n).lt hb,.nil1 _ _ hk,by simp [hsz],fun t v hv=>?_,henv,Evo.refl.to_at⟩
 by_cases ht:t<args.length
 ·simp only [List.getElem?_append_left ht] at hv
  have:=hargs t v hv
  simp only [Array.getD_eq_getD_getElem?] at this ⊢
  rwa [Array.getElem?_append_left (by omega)]
 ·simp only [List.getElem?_append_right (Nat.le_of_not_lt ht),List.getElem?_replicate] at hv
  split at hv
  ·cases hv; exact .any _
  ·cases hv
theorem Qmb {X:Nat→Nat→Prop} {φ:Nat→FSlot} {w:World} {σ:List Slot} (henv:EnvOK X φ w (fun n=>σ.getD n .unused)):∀ n,σ.length≤n→φ n=.unused:=fun n hn=>by
 have:=henv.slot n
 simp only [List.getD_eq_getElem?_getD,List.getElem?_eq_none hn,Option.getD_none] at this
 exact this
theorem Qah {P:Program} {f:FuncId} {fn:Func} {c:Code} (hf:P.funcs[f]? = some fn) (hb:fn.body=some c) {args:List AV} {σ:List Slot} {res:AV} {σ':List Slot} (k:Nat) (hσ:σ.length≤k)
  (h:∀ X φ0 w0,(∀ n,σ.length≤n→φ0 n=.unused)→w0.drawn ≠ 1→AWp P X φ0 w0 none c (finA P fn k res σ') ⟨args++List.replicate (fn.ntmps - args.length) .any,σ⟩):Spec P f args σ res σ':=by
 intro X φ w vals hsz hargs henv
 have hφ0:=Qmb henv
 refine callsIn_wide.1 (callsIn_of_wp_marks (F:=FR none) (n:=0) hf hb trivial (wpIn_mono (h X φ { w with drawn:=0 } hφ0 (fun e=>by cases e) φ _ w (Qny (k:=0) (Nat.zero_le _) hsz hargs henv)) fun e a w' ⟨φ',s,hs,hq⟩=>?_))
 have fin:Fin P fn k res σ' s→LeavesInM (FR none) 0 P fn a.tmps (fun e w'=>∃ v φ',e=.returned v∧RelV X φ' w' res v∧EnvOK X φ' w' (fun n=>σ'.getD n .unused)∧Evo X φ w φ' w') a.defers .returning w':=fun hq=>
  Ql0 (by simp) hs fun w'' hs2=>by
   rw [Qmc rfl] at hs2 ⊢
   obtain ⟨v,h1,v',φ2,h2,h3,h4,h5⟩:=Qz4 (fun n hn=>hφ0 n (Nat.le_trans hσ hn)) hs2 hq
   exact ⟨v,h1,v',φ2,h2,h3,h4,h5.of_at⟩
 cases e with
 | normal=>exact fin hq
 | ret=>exact fin hq
 | exit=>exact hq.elim
 | goto=>exact hq.elim
 | panic=>exact hq.elim
 | outgrown=>exact hq.elim
end Go.Proofs.YtmbhnllcfmiajaaGreat
