/-
  The engine, part N: calls that hand on blocks; the end of a function that was given blocks; what was one's own handed out as data. Plain laws; no conditions.
-/
import Derived.Test.YtmbhnllcfmiajaaGreatEngM
namespace Go.Proofs.YtmbhnllcfmiajaaGreat
open Go.RowKit
theorem NLt.of0 {k:Nat} {a:AV} (h:NLt 0 a):NLt k a:=by
 induction h with
 | any=>exact .any
 | lit v=>exact .lit v
 | agg l _ ih=>exact .agg l ih
 | tup l _ ih=>exact .tup l ih
 | fn f l c _ _ ih ih'=>exact .fn f l c ih ih'
 | dat m xs _ ih=>exact .dat m xs ih
 | dptr cs i _ ih=>exact .dptr cs i ih
 | ref n m j i h=>exact absurd h (Nat.not_lt_zero n)
 | own n m j len h=>exact absurd h (Nat.not_lt_zero n)
 | acc n ty m xs h=>exact absurd h (Nat.not_lt_zero n)
 | gro n ty m len h=>exact absurd h (Nat.not_lt_zero n)
 | row n q m j len h=>exact absurd h (Nat.not_lt_zero n)
 | rowp n q m j i h=>exact absurd h (Nat.not_lt_zero n)
 | mp n h=>exact absurd h (Nat.not_lt_zero n)
theorem Qqn {k:Nat} {α:Type} {c:α→List AV} (h:∀ x,∀ a ∈ c x,NLt 0 a) (l:List α):∀ x ∈ l.map c,∀ a ∈ x,NLt k a:=fun x hx a ha=>(Qbk h l x hx a ha).of0
theorem Qcj {k m:Nat} {α:Type} {c:α→List AV} (h:∀ x,∀ a ∈ c x,NLt 0 a) (l:List α):SNLt k (.own m (l.map c)):=.own m _ (Qqn h l)
theorem Qbc {k m:Nat} {l:List AV} (h:∀ a ∈ l,NLt k a):SNLt k (.own m [l]):=.own m _ fun x hx=>by
 rw [List.mem_singleton.1 hx]
 exact h
theorem Qbs {k:Nat}:∀ s ∈ ([]:List Slot),SNLt k s:=by simp
theorem Qao {k:Nat} {s:Slot} {l:List Slot} (h:SNLt k s) (hl:∀ s ∈ l,SNLt k s):∀ b ∈ s::l,SNLt k b:=fun b hb=>by
 rcases List.mem_cons.1 hb with rfl | hb
 ·exact h
 ·exact hl b hb
theorem Qc8 {P:Program} {fn:Func} {k:Nat} {res:AV} {σ':List Slot} {regs vs:List AV} (hr:ResL P ⟨regs,σ'⟩ fn.results.toList vs) (hres:res=Qw2 vs) (hn:NLt k res) (hk:σ'.length=k) (hs:∀ s ∈ σ',SNLt k s):Fin P fn k res σ' ⟨regs,σ'⟩:=
 ⟨⟨vs,hr,hres⟩,hn,Nat.le_of_eq hk,fun n hn=>⟨rfl,by
  subst hk
  show SNLt _ (σ'.getD n .unused)
  simp only [List.getD_eq_getElem?_getD,List.getElem?_eq_getElem hn,Option.getD_some]
  exact hs _ (List.getElem_mem hn)⟩⟩
def finM (P:Program) (X:Nat→Nat→Prop) (φ0:Nat→FSlot) (w0:World) (fn:Func) (k:Nat) (res:AV) (σ':List Slot):Exit→AS→Prop
 | .normal,s | .ret,s=>∃ s',Mor X φ0 w0 s s'∧Fin P fn k res σ' s'
 | _,_=>False
theorem Qbx {P:Program} {X:Nat→Nat→Prop} {φ0:Nat→FSlot} {w0:World} {ro:Option Nat} {fn:Func} {k:Nat} {res:AV} {σ':List Slot} {c:Code} {s:AS} (h:AWp P X φ0 w0 ro c (finM P X φ0 w0 fn k res σ') s):AWp P X φ0 w0 ro c (finA P fn k res σ') s:=fun φ a w hs=>
 wpIn_mono (h φ a w hs) fun e a w ⟨φ',s',hs',hq⟩=>by
  cases e with
  | normal=>obtain ⟨s2,hm,hf⟩:=hq; obtain ⟨φ2,h2⟩:=hm _ _ _ hs'; exact ⟨φ2,s2,h2,hf⟩
  | ret=>obtain ⟨s2,hm,hf⟩:=hq; obtain ⟨φ2,h2⟩:=hm _ _ _ hs'; exact ⟨φ2,s2,h2,hf⟩
  | _=>exact hq.elim
theorem Qbj {ρ:List Nat} {k n n' m j i:Nat} (h:(ρ[n]? == some n'&&Nat.blt n k)=true):Rn (fun n n'=>ρ[n]? = some n'∧n<k) (.ref n m j i) (.ref n' m j i):=.ref (by simpa [Nat.blt_eq] using h) _ _ _
theorem Qc5 {ρ:List Nat} {k n n' m j i:Nat} (h:(ρ[n]? == some n'&&Nat.blt n k)=true):Rn (fun n n'=>ρ[n]? = some n'∧n<k) (.own n m j i) (.own n' m j i):=.own (by simpa [Nat.blt_eq] using h) _ _ _
theorem Qu9 {ρ:List Nat} {n n':Nat} {ty:TypeId} {m:Nat} {xs:List (List AV)} (h:(ρ[n]? == some n')=true) (hx:∀ x ∈ xs,∀ a ∈ x,NLt 0 a):Rn (fun n n'=>ρ[n]? = some n') (.acc n ty m xs) (.acc n' ty m xs):=.acc (by simpa using h) _ _ _ hx
theorem Qbr {ρ:List Nat} {n n' m j i:Nat} (h:(ρ[n]? == some n')=true):Rn (fun n n'=>ρ[n]? = some n') (.ref n m j i) (.ref n' m j i):=.ref (by simpa using h) _ _ _
theorem Qdb {ρ:List Nat} {n n' m j i:Nat} (h:(ρ[n]? == some n')=true):Rn (fun n n'=>ρ[n]? = some n') (.own n m j i) (.own n' m j i):=.own (by simpa using h) _ _ _
def SLw (M:Nat→Nat→Prop):List Slot→List Slot→Prop
 | [],[]=>True
 | s::l,t::k=>SRn M s t∧SLw M l k
 | _,_=>False
theorem SLw.spec {M:Nat→Nat→Prop}:∀ {l k:List Slot},SLw M l k→l.length=k.length∧∀ (i:Nat) s t,l[i]? = some s→k[i]? = some t→SRn M s t
 | [],[],_=>⟨rfl,by simp⟩
 | _::_,_::_,h=>by
  obtain ⟨h1,h2⟩:=SLw.spec h.2
  refine ⟨by simp [h1],fun i s t hs ht=>?_⟩
  cases i with
  | zero=>simp at hs ht; subst hs ht; exact h.1
  | succ i=>exact h2 i s t (by simpa using hs) (by simpa using ht)
theorem Qas {M:Nat→Nat→Prop}:SLw M [] []:=trivial
theorem Zb6 {M:Nat→Nat→Prop} {s t:Slot} {l k:List Slot} (h:SRn M s t) (hl:SLw M l k):SLw M (s::l) (t::k):=⟨h,hl⟩
theorem Qaq {M:Nat→Nat→Prop} {m:Nat} {l l':List AV} (h:LPw (Rn M) l l'):SRn M (.own m [l]) (.own m [l']):=.own m _ _ rfl
 (fun j x x' hj hj'=>by
  cases j with
  | zero=>simp at hj hj'; subst hj hj'; exact h.length
  | succ j=>simp at hj)
 (fun j x x' hj hj' i a a' hi hi'=>by
  cases j with
  | zero=>
   simp at hj hj'; subst hj hj'
   obtain ⟨b,hb,hr⟩:=h.get i a' hi'
   rw [hi] at hb; cases hb; exact hr
  | succ j=>simp at hj)
theorem Qa6 {M:Nat→Nat→Prop} {m:Nat} {α:Type} {c:α→List AV} {l:List α} (h:∀ x,∀ a ∈ c x,NLt 0 a):SRn M (.own m (l.map c)) (.own m (l.map c)):=.own m _ _ rfl
 (fun j x x' hj hj'=>by rw [hj] at hj'; cases hj'; rfl)
 (fun j x x' hj hj' i a a' hi hi'=>by
  rw [hj] at hj'; cases hj'
  rw [hi] at hi'; cases hi'
  exact .plain a (Qbk h l x (List.mem_of_getElem? hj) a (List.mem_of_getElem? hi)))
def Slot.alive:Slot→Bool
 | .dead=>false
 | .tok=>false
 | _=>true
section
variable {P : Program} {o : Oper}
theorem Qat {f:Operand} {xs:Array Operand} {ts:Array TypeId} {g:FuncId} {first cap vs args:List AV} {σ σr σ' σr':List Slot} {res res':AV} (ρ:List Nat) (h:o.op=.call { callee:=.value f,args:=xs,argTypes:=ts })
  (hcall:∀ vals w,(callFunc g vals).run P w=.ok (.enter g vals) w) (spec:Spec P g args σ res σ')
  (hdec:(decide ρ.Nodup&&(vs.length==xs.size)&&(σ'.length==ρ.length)&&Nat.ble σ.length ρ.length&&σ.all Slot.alive)=true)
  (hargs:Rn (fun n n'=>ρ[n]? = some n'∧n<σ.length) (.agg args) (.agg (first++vs++cap)))
  (hσ:SLw (fun n n'=>ρ[n]? = some n'∧n<σ.length) σ σr) (hσ':SLw (fun n n'=>ρ[n]? = some n') σ' σr') (hres:Rn (fun n n'=>ρ[n]? = some n') res res')
  {bl eff:List (Nat×Slot)} (hbl:(ρ.take σ.length).zip σr++(ρ.drop σ.length).map (fun n=>(n,Slot.unused))=bl) (heff:ρ.zip σr'=eff) {rd:List (Operand×AV)} (hrd:(f,.fn (.func g) first cap)::xs.toList.zip vs=rd) :
  Qcg P o rd bl res' eff:=by
 simp only [Bool.and_eq_true,decide_eq_true_eq,beq_iff_eq,Nat.ble_eq] at hdec
 obtain ⟨⟨⟨⟨h1,h2⟩,h3⟩,h4⟩,h5⟩:=hdec
 obtain ⟨q1,q2⟩:=hσ.spec
 obtain ⟨r1,r2⟩:=hσ'.spec
 refine Qt6 ρ h1 h hcall spec h2 hargs q1.symm (fun n s s' hs hs'=>⟨⟨fun e=>?_,fun e=>?_⟩,q2 n s s' hs hs'⟩) h3 (by omega) h4 r2 hres hbl heff hrd
 all_goals
  subst e
  have:=List.all_eq_true.1 h5 _ (List.mem_of_getElem? hs)
  cases this
end
section
variable {P : Program} {o : Oper}
theorem Qgx {x y:Operand} {t e:TypeId} {g:Bool} {n len:Nat} {l:List AV} {k:IntKind} {q:Int} {r:AV} (h:o.op=.index t x y) (ht:P.underlying t=some (.array len e)) (hi:TI P e g n)
  (h0:0≤q) (hq:q.toNat<len) (hl:q.toNat * n+n≤l.length) (hn:g=false→n=1) (hv:(bif g then .agg ((l.drop (q.toNat * n)).take n) else l.getD (q.toNat * n) .any)=r):Qcg P o [(x,.agg l),(y,.lit (.int k q))] [] r []:=Qbv fun X φ ac w hr _=>by
 have h1:=hr (x,.agg l) (by simp)
 have hy:ac.eval y=.int k q:=Qcf (hr (y,.lit (.int k q)) (by simp))
 have hlt':q<(len:Int):=by omega
 dsimp only at h1
 cases hx:ac.eval x with
 | agg vs=>
  rw [hx] at h1
  cases h1 with
  | agg _ _ hs h2=>
   generalize hoff:q.toNat * n=off at *
   cases g with
   | false=>
    have hn1:=hn rfl
    have hlt:off<vs.size:=by omega
    refine ⟨vs[off],?_,?_⟩
    ·have hg:vs[off]? = some vs[off]:=Array.getElem?_eq_getElem hlt
     simp [execOp,h,hx,hy,Instr.index,run_underlying ht,asIntOf,h0,hlt',hi.size,hoff,part,hi.isAgg,hg]
    ·subst hv
     have:=h2 off (l.getD off .any) (by rw [List.getD_eq_getElem?_getD,List.getElem?_eq_getElem (by omega)]; rfl)
     simpa [Array.getD_eq_getD_getElem?,hlt] using this
   | true=>
    refine ⟨.agg (vs.extract off (off+n)),?_,?_⟩
    ·simp [execOp,h,hx,hy,Instr.index,run_underlying ht,asIntOf,h0,hlt',hi.size,hoff,part,hi.isAgg]
    ·subst hv
     refine .agg _ _ (by simp; omega) fun i a hia=>?_
     rw [List.getElem?_take] at hia
     split at hia
     ·rw [List.getElem?_drop] at hia
      have:=h2 _ a hia
      rw [Array.getD_eq_getD_getElem?] at this ⊢
      rwa [Array.getElem?_extract,if_pos (by omega)]
     ·cases hia
 | _=>rw [hx] at h1; cases h1
end
section
variable {X : Nat → Nat → Prop} {φ0 : Nat → FSlot} {w0 : World} {s : AS}
theorem Zfy {n:Nat} (q:Nat) (l:List (Nat×AV)) {l':List (Nat×AV)} {m:Nat} {xs:List (List AV)} {own':List Slot} (hmask:Qvj s.regs (mk n l)=mk n l) (hn:(s.regs.length==n&&Nat.blt q s.own.length)=true) (hs:s.own.getD q .unused=.own m xs)
  (hr:PPw (Fz q m xs) l l') (ho:s.own.set q .dead=own'):Mor X φ0 w0 s ⟨mk n l',own'⟩:=by
 subst ho
 simp only [Bool.and_eq_true,beq_iff_eq,Nat.blt_eq] at hn
 refine Mor.trans (Qn8 l hn.1 hmask) (Qpc (s:=⟨mk n l,s.own⟩) q hs (Qxm (.any _) n hr) ?_ fun k hk=>?_)
 ·simp [hn.2]
 ·have:(s.own.set q Slot.dead).getD k .unused=s.own.getD k .unused:=by
   simp only [List.getD_eq_getElem?_getD]
   rw [List.getElem?_set_ne (fun e=>hk e.symm)]
  rw [this]
  exact SPw.refl (fun a=>.same a) _
theorem Qpf {n m:Nat} {α:Type} {c:α→List AV} {e:List α} {len:Nat} (h:decide (len≤e.length)=true):Fz n m (e.map c) (.own n m 0 len) (.dat m ((e.take len).map c)):=.fz 0 len _ (by simpa using h) (by simp [List.map_take])
end
end Go.Proofs.YtmbhnllcfmiajaaGreat
namespace Go.Proofs.YtmbhnllcfmiajaaGreat
open Go.RowKit
section
variable {X : Nat → Nat → Prop} {φ φ' : Nat → FSlot} {w w' : World}
theorem Qx5 (h:∀ n,φ n=.unused) (ev:Evo X φ w φ' w'):Below w.heap.size w w':=⟨ev.os,ev.tape,ev.output,ev.size,fun b hb=>ev.blk b hb fun ⟨n,hn⟩=>by
 rw [h n] at hn
 exact Qdp hn⟩
theorem Zjk (h:∀ n,φ n=.unused) (hX:∀ b off,X b off→b<w.heap.size):EnvOK X φ w (fun n=>([]:List Slot).getD n .unused):=⟨fun n=>h n,fun n n' b h1=>(by
 rw [h n] at h1
 exact (Qdp h1).elim),hX⟩
theorem Spec.calls {P:Program} {f:FuncId} {args:List AV} {res:AV} (h:Spec P f args [] res []) {vals:Array Value} (hsz:vals.size=args.length) (hargs:∀ i v,args[i]? = some v→RelV X φ w v (vals.getD i undef)) (hφ:∀ n,φ n=.unused) (hX:∀ b off,X b off→b<w.heap.size) :
  Calls P f vals w fun e w'=>∃ v φ',e=.returned v∧RelV X φ' w' res v∧Below w.heap.size w w':=by
 refine (h X φ w vals hsz hargs (Zjk hφ hX)).mono ?_
 rintro e w' ⟨v,φ',rfl,hv,_,ev⟩
 exact ⟨v,φ',rfl,hv,Qx5 hφ ev⟩
end
end Go.Proofs.YtmbhnllcfmiajaaGreat
