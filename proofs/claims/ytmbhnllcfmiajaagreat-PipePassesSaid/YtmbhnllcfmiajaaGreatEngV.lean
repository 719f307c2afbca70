/-
  The engine, part V: growing slices of one's own used as blocks of one's own; arrays at a computed place. Plain definitions and laws; no conditions.
-/
import Derived.Test.YtmbhnllcfmiajaaGreatEngU
namespace Go.Proofs.YtmbhnllcfmiajaaGreat
open Go.RowKit
theorem Less.gro {n:Nat} {ty:TypeId} {m len:Nat}:Less (.gro n ty m len) (.own n m 0 len):=fun _ _ _ _ h=>by
 cases h with
 | gro _ _ _ _ A cap hc hm hn hv h=>exact .own n m 0 len A cap hc hm hn fun b hb=>by rw [(h b hb).1]; simp
def SLess (s t:Slot):Prop:=∀ (X:Nat→Nat→Prop) (φ:Nat→FSlot) (w:World) (n:Nat),SlotOK X φ w n s→SlotOK X φ w n t
theorem SLess.rfl {s:Slot}:SLess s s:=fun _ _ _ _ h=>h
theorem SLess.gro {m:Nat} {xs:List (List AV)} (hne:xs ≠ []):SLess (.gro m xs) (.own m xs):=fun _ _ _ _ h=>by
 rcases h with ⟨h,_⟩ | h
 ·exact absurd h hne
 ·exact h
def BW:List (Nat×Slot)→List (Nat×Slot)→Prop
 | [],[]=>True
 | p::l,q::k=>p.1=q.1∧SLess p.2 q.2∧BW l k
 | _,_=>False
theorem BW.get:∀ {l k:List (Nat×Slot)},BW l k→∀ q ∈ k,∃ p ∈ l,p.1=q.1∧SLess p.2 q.2
 | [],[],_,q,hq=>by cases hq
 | p::l,q'::k,h,q,hq=>by
  rcases List.mem_cons.1 hq with rfl | hq
  ·exact ⟨p,by simp,h.1,h.2.1⟩
  ·obtain ⟨p',hp',e⟩:=BW.get h.2.2 q hq
   exact ⟨p',List.mem_cons_of_mem _ hp',e⟩
section
variable {P : Program} {o : Oper} {rd rd' : List (Operand × AV)} {bl bl' eff : List (Nat × Slot)} {r : AV}
theorem Q0g (hw:BW bl bl') (h:Qcg P o rd bl' r eff):Qcg P o rd bl r eff:=fun X φ a w hr hb=>h X φ a w hr fun q hq=>by
 obtain ⟨p,hp,e1,e2⟩:=hw.get q hq
 rw [← e1]
 exact e2 _ _ _ _ (hb p hp)
end
section
variable {P : Program} {X : Nat → Nat → Prop} {φ0 : Nat → FSlot} {w0 : World} {s : AS}
theorem Zcl (n:Nat) (ty:TypeId) (m:Nat) (t:Nat) (h1:s.regs[t]? = some nilS) (h2:s.slot n=.unused):Mor X φ0 w0 s ⟨s.regs.set t (.gro n ty m 0),setL s.own n (.gro m [])⟩:=
 Q81 n ty m h2 (LPw.set (fun a=>.same a) _ t h1 .nil) (by rw [Qjw,if_pos rfl]) fun k hk=>by
  rw [Qjw,if_neg (fun e=>hk e.symm)]
  exact SPw.refl (fun a=>.same a) _
theorem Zcm {n:Nat} (l:List (Nat×AV)) {l':List (Nat×AV)} (hn:(s.regs.length==n)=true) (hmask:Qvj s.regs (mk n l)=mk n l) (hr:PPw Less l l'):Mor X φ0 w0 s ⟨mk n l',s.own⟩:=by
 have hn':s.regs.length=n:=by simpa using hn
 refine Mor.trans (Qn8 l hn' hmask) fun φ a w hs=>⟨φ,hs.less ?_⟩
 have key:∀ {l k:List AV},LPw Less l k→LessL l k:=by
  intro l
  induction l with
  | nil=>intro k h; cases k with | nil=>trivial | cons=>exact h.elim
  | cons a l ih=>intro k h; cases k with | nil=>exact h.elim | cons b k=>exact ⟨h.1,ih h.2⟩
 exact key (Qxm Less.rfl n hr)
end
theorem Qzj {ρ:List Nat} {n n':Nat} {ty:TypeId} {m i:Nat} (h:(ρ[n']? == some n)=true):Rn (fun n n'=>ρ[n']? = some n) (.gro n ty m i) (.gro n' ty m i):=.gro (by simpa using h) _ _ _
theorem Qu5 {M:Nat→Nat→Prop} {m:Nat} {α:Type} {c:α→List AV} {l:List α} (h:∀ x,∀ a ∈ c x,NLt 0 a):SPw (RW M) (.gro m (l.map c)) (.gro m (l.map c)):=.gro m _ _ rfl fun j y y' hj hj'=>by
 rw [hj] at hj'
 cases hj'
 have hy:=Qbk h l y (List.mem_of_getElem? hj)
 clear hj
 induction y with
 | nil=>exact trivial
 | cons a y ih=>exact ⟨.rn (.plain a (hy a (by simp))),ih fun b hb=>hy b (List.mem_cons_of_mem _ hb)⟩
theorem Zjg {α:Type} (c:α→List AV) {a b:List α} {n:Nat} (h:decide ((a.length+b.length) * n≤140737488355328)=true):((a.map c).length+(b.map c).length) * n≤140737488355328:=by simpa using h
theorem Q0n {P:Program} {o:Oper} {α:Type} {c:α→List AV} {a b:List α} {x y:Operand} {t e:TypeId} {m bytes:Nat} {u:AV} {n0 n:Nat} (h:o.op=.call { callee:=.builtin .append,args := #[x,y],argTypes := #[t,t] }) (ht:P.underlying t=some (.slice e)) (he:TE P e m bytes)
  (hu:Qs3 u=some (m,b.map c)) (hne:b.map c ≠ []) (h1:((b.map c).all fun y=>y.all AV.one)=true) (hb:decide ((a.length+b.length) * bytes≤140737488355328)=true) (hp:0<bytes) :
  Qcg P o [(x,.gro n0 e m a.length),(y,u)] [(n0,.gro m (a.map c)),(n,.unused)] (.gro n e m (a++b).length) [(n0,.dead),(n,.gro m ((a++b).map c))]:=by
 have h2:=Q5b (o:=o) (n0:=n0) (n:=n) (xs:=a.map c) (len:=a.length) (L:=(a++b).length) h ht he (by simp) hu rfl hne h1 (Zjg c hb) (by
  have h1:=of_decide_eq_true hb
  have h2:=Nat.le_mul_of_pos_right (a.length+b.length) hp
  simp only [List.length_map,maxLen]
  omega) (by simp)
 rwa [← List.map_append] at h2
end Go.Proofs.YtmbhnllcfmiajaaGreat
