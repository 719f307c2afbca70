/-
  The engine, part X: many blocks of one's own under one name (slices of slices of one's own). Plain definitions and laws; no conditions.
-/
import Derived.Test.YtmbhnllcfmiajaaGreatEngW
namespace Go.Proofs.YtmbhnllcfmiajaaGreat
open Go.RowKit
section
variable {P : Program} {o : Oper} {X : Nat → Nat → Prop} {φ : Nat → FSlot} {w : World} {r : AV}
end
section
variable {P : Program} {X : Nat → Nat → Prop} {φ0 φ : Nat → FSlot} {w0 w : World} {s : AS}
end
section
variable {X : Nat → Nat → Prop} {φ0 : Nat → FSlot} {w0 : World} {s : AS}
theorem Qzv {n:Nat} (q p:Nat) (l:List (Nat×AV)) {l':List (Nat×AV)} {mp m:Nat} {c c':List AV} {xs:List (List AV)} {own':List Slot} (hmask:Qvj s.regs (mk n l)=mk n l) (hn:(s.regs.length==n&&Nat.blt q s.own.length&&Nat.blt p s.own.length&&q != p)=true) (hs:s.own.getD q .unused=.own m xs) (hp:s.own.getD p .unused=.own mp [c])
  (hc:LPw (Fz q m xs) c c') (hr:PPw (Fz q m xs) l l') (ho:(s.own.set p (.own mp [c'])).set q .dead=own'):Mor X φ0 w0 s ⟨mk n l',own'⟩:=by
 subst ho
 simp only [Bool.and_eq_true,beq_iff_eq,Nat.blt_eq,bne_iff_ne,ne_eq] at hn
 obtain ⟨⟨⟨hn1,hn2⟩,hn3⟩,hn4⟩:=hn
 refine Mor.trans (Qn8 l hn1 hmask) (Qpc (s:=⟨mk n l,s.own⟩) q hs (Qxm (.any _) n hr) ?_ fun k hk=>?_)
 ·simp [hn2]
 ·have:((s.own.set p (Slot.own mp [c'])).set q Slot.dead).getD k .unused=(s.own.set p (Slot.own mp [c'])).getD k .unused:=by
   simp only [List.getD_eq_getElem?_getD]
   rw [List.getElem?_set_ne (fun e=>hk e.symm)]
  rw [this]
  by_cases e:k=p
  ·subst e
   have e1:(s.own.set k (Slot.own mp [c'])).getD k .unused=.own mp [c']:=by simp [hn3]
   have e2:AS.slot ⟨mk n l,s.own⟩ k=.own mp [c]:=hp
   rw [e1,e2]
   refine .own mp _ _ rfl fun j x x' h1 h2=>?_
   cases j with
   | zero=>simp at h1 h2; subst h1 h2; exact hc
   | succ j=>simp at h1
  ·have:(s.own.set p (Slot.own mp [c'])).getD k .unused=s.own.getD k .unused:=by
    simp only [List.getD_eq_getElem?_getD]
    rw [List.getElem?_set_ne (fun e'=>e e'.symm)]
   rw [this]
   exact SPw.refl (fun a=>.same a) _
end
section
variable {P : Program} {o : Oper}
end
end Go.Proofs.YtmbhnllcfmiajaaGreat
