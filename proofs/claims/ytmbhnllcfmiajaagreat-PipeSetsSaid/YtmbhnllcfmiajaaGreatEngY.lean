/-
  The engine, part Y: what grows is written no more; append to nothing as a growing block of one's own. Plain laws; no conditions.
-/
import Derived.Test.YtmbhnllcfmiajaaGreatEngX
namespace Go.Proofs.YtmbhnllcfmiajaaGreat
open Go.RowKit
section
variable {P : Program} {o : Oper} {X : Nat → Nat → Prop} {φ φ' : Nat → FSlot} {w : World}
end
section
variable {X : Nat → Nat → Prop} {φ0 : Nat → FSlot} {w0 : World} {s : AS}
inductive FzG (n m:Nat) (xs:List (List AV)):AV→AV→Prop where
 | same (a:AV):FzG n m xs a a
 | any (a:AV):FzG n m xs a .any
 | gro (ty:TypeId) (len:Nat) (h:len=xs.length):FzG n m xs (.gro n ty m len) (.dat m xs)
 | agg (l l':List AV) (hl:l.length=l'.length) (h:∀ (i:Nat) a a',l[i]? = some a→l'[i]? = some a'→FzG n m xs a a'):FzG n m xs (.agg l) (.agg l')
end
section
variable {X : Nat → Nat → Prop} {φ0 : Nat → FSlot} {w0 : World} {s : AS}
end
section
variable {X : Nat → Nat → Prop} {φ0 : Nat → FSlot} {w0 : World} {s : AS}
end
theorem Qxn {P:Program} {o:Oper} {rd:List (Operand×AV)} {bl eff:List (Nat×Slot)} {r r':AV} (hl:Less r r') (h:Qb1 P o rd bl r eff):Qb1 P o rd bl r' eff:=
 fun X φ a w hr hb hd hX hlt next Q k=>h X φ a w hr hb hd hX hlt next Q fun v φ' w' hv=>k v φ' w' (hl X φ' w' v hv)
theorem Less.tup {l k:List AV} (h:LessL l k):Less (.tup l) (.tup k):=fun X φ w v hv=>by
 cases hv with
 | tup _ vs hs hr=>
  refine .tup k vs (hs.trans h.length) fun i a hi=>?_
  obtain ⟨b,hb,hl⟩:=h.get i a hi
  exact hl X φ w _ (hr i b hb)
end Go.Proofs.YtmbhnllcfmiajaaGreat
