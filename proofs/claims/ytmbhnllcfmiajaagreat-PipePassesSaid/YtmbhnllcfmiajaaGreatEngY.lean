/-
  The engine, part Y: what grows is written no more; append to nothing as a growing block of one's own. Plain laws; no conditions.
-/
import Derived.Test.YtmbhnllcfmiajaaGreatEngX
namespace Go.Proofs.YtmbhnllcfmiajaaGreat
open Go.RowKit
section
variable {P : Program} {o : Oper} {X : Nat → Nat → Prop} {φ φ' : Nat → FSlot} {w : World}
end
section
variable {X : Nat → Nat → Prop} {φ0 : Nat → FSlot} {w0 : World} {s : AS}
inductive FzG (n m:Nat) (xs:List (List AV)):AV→AV→Prop where
 | same (a:AV):FzG n m xs a a
 | any (a:AV):FzG n m xs a .any
 | gro (ty:TypeId) (len:Nat) (h:len=xs.length):FzG n m xs (.gro n ty m len) (.dat m xs)
 | agg (l l':List AV) (hl:l.length=l'.length) (h:∀ (i:Nat) a a',l[i]? = some a→l'[i]? = some a'→FzG n m xs a a'):FzG n m xs (.agg l) (.agg l')
theorem Zcc {R:AV→AV→Prop} {own own':List Slot} {q:Nat} (hq:q<own.length) (h:QPw R (own.set q .dead) own'):own'.getD q .unused=.dead∧∀ k,k ≠ q→SPw R (own.getD k .unused) (own'.getD k .unused):=by
 obtain ⟨h1,h2⟩:=h.spec
 rw [List.length_set] at h1
 refine ⟨?_,fun k hk=>?_⟩
 ·have:=h2 q .dead (own'[q]'(by omega)) (by rw [List.getElem?_set_self hq]) (List.getElem?_eq_getElem (by omega))
  rw [List.getD_eq_getElem?_getD,List.getElem?_eq_getElem (by omega),Option.getD_some]
  generalize own'[q]=z at this
  cases this
  rfl
 ·rcases Nat.lt_or_ge k own.length with hl | hl
  ·have:=h2 k own[k] (own'[k]'(by omega)) (by rw [List.getElem?_set_ne (Ne.symm hk),List.getElem?_eq_getElem hl]) (List.getElem?_eq_getElem (by omega))
   simpa [List.getD_eq_getElem?_getD,List.getElem?_eq_getElem hl,List.getElem?_eq_getElem (show k<own'.length by omega)] using this
  ·simp only [List.getD_eq_getElem?_getD,List.getElem?_eq_none hl,List.getElem?_eq_none (show own'.length≤k by omega),Option.getD_none]
   exact .unused
theorem Zja {n:Nat} (q:Nat) (l:List (Nat×AV)) {l':List (Nat×AV)} {m:Nat} {xs:List (List AV)} {own':List Slot} (hmask:Qvj s.regs (mk n l)=mk n l) (hn:(s.regs.length==n&&Nat.blt q s.own.length)=true) (hs:s.own.getD q .unused=.own m xs)
  (hr:PPw (Fz q m xs) l l') (ho:QPw (Fz q m xs) (s.own.set q .dead) own'):Mor X φ0 w0 s ⟨mk n l',own'⟩:=by
 simp only [Bool.and_eq_true,beq_iff_eq,Nat.blt_eq] at hn
 obtain ⟨h1,h2⟩:=Zcc hn.2 ho
 exact Mor.trans (Qn8 l hn.1 hmask) (Qpc (s:=⟨mk n l,s.own⟩) q hs (Qxm (.any _) n hr) h1 h2)
end
section
variable {X : Nat → Nat → Prop} {φ0 : Nat → FSlot} {w0 : World} {s : AS}
end
section
variable {X : Nat → Nat → Prop} {φ0 : Nat → FSlot} {w0 : World} {s : AS}
end
theorem Zb3 {R:AV→AV→Prop} {m:Nat} {c c':List AV} (h:LPw R c c'):SPw R (.own m [c]) (.own m [c']):=.own m _ _ rfl fun j x x' h1 h2=>by
 cases j with
 | zero=>simp at h1 h2; subst h1 h2; exact h
 | succ j=>simp at h1
theorem Qnx {n m:Nat} {xs:List (List AV)} {s:Slot}:SPw (Fz n m xs) s s:=SPw.refl (fun a=>.same a) s
theorem Qsf {P:Program} {o:Oper} {rd:List (Operand×AV)} {bl eff:List (Nat×Slot)} {r r':AV} (hl:Less r r') (h:Qcg P o rd bl r eff):Qcg P o rd bl r' eff:=
 fun X φ a w hr hb hd hX hlt next Q k=>h X φ a w hr hb hd hX hlt next Q fun v φ' w' hv=>k v φ' w' (hl X φ' w' v hv)
theorem Less.tup {l k:List AV} (h:LessL l k):Less (.tup l) (.tup k):=fun X φ w v hv=>by
 cases hv with
 | tup _ vs hs hr=>
  refine .tup k vs (hs.trans h.length) fun i a hi=>?_
  obtain ⟨b,hb,hl⟩:=h.get i a hi
  exact hl X φ w _ (hr i b hb)
end Go.Proofs.YtmbhnllcfmiajaaGreat
