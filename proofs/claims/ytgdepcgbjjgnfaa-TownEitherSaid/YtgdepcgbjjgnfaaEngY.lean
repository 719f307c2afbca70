/-
  The engine, part Y: what grows is written no more; append to nothing as a growing block of one's own. Plain laws; no conditions.
-/
import Derived.Test.YtgdepcgbjjgnfaaEngX
namespace Go.Proofs.Ytgdepcgbjjgnfaa
open Go.RowKit
section
variable {P : Program} {o : Oper} {X : Nat → Nat → Prop} {φ φ' : Nat → FSlot} {w : World}
end
section
variable {X : Nat → Nat → Prop} {φ0 : Nat → FSlot} {w0 : World} {s : AS}
inductive FzG (n m : Nat) (xs : List (List AV)) : AV → AV → Prop where
 | same (a : AV) : FzG n m xs a a
 | any (a : AV) : FzG n m xs a .any
 | gro (ty : TypeId) (len : Nat) (h : len = xs.length) : FzG n m xs (.gro n ty m len) (.dat m xs)
 | agg (l l' : List AV) (hl : l.length = l'.length) (h : ∀ (i : Nat) a a', l[i]? = some a → l'[i]? = some a' → FzG n m xs a a') : FzG n m xs (.agg l) (.agg l')
end
section
variable {X : Nat → Nat → Prop} {φ0 : Nat → FSlot} {w0 : World} {s : AS}
end
section
variable {X : Nat → Nat → Prop} {φ0 : Nat → FSlot} {w0 : World} {s : AS}
end
theorem Qjp {P : Program} {o : Oper} {rd : List (Operand × AV)} {bl eff : List (Nat × Slot)} {r r' : AV} (hl : Less r r') (h : Qcx P o rd bl r eff) : Qcx P o rd bl r' eff :=
 fun X φ a w hr hb hd hX hlt next Q k => h X φ a w hr hb hd hX hlt next Q fun v φ' w' hv => k v φ' w' (hl X φ' w' v hv)
theorem Less.tup {l k : List AV} (h : LessL l k) : Less (.tup l) (.tup k) := fun X φ w v hv => by
 cases hv with
 | tup _ vs hs hr =>
  refine .tup k vs (hs.trans h.length) fun i a hi => ?_
  obtain ⟨b, hb, hl⟩ := h.get i a hi
  exact hl X φ w _ (hr i b hb)
theorem Qxy {k m : Nat} {α : Type} {c : α → List AV} (h : ∀ x, ∀ a ∈ c x, NLt 0 a) (l : List α) : SNLt k (.gro m (l.map c)) := .gro m _ (Qsh h l)
theorem Qr9 {M : Nat → Nat → Prop} {m : Nat} {α : Type} {c : α → List AV} {l : List α} (h : ∀ x, ∀ a ∈ c x, NLt 0 a) : SRn M (.gro m (l.map c)) (.gro m (l.map c)) :=
 .gro m _ _ rfl (fun j x x' h1 h2 => by rw [h1] at h2; cases h2; rfl) fun j x x' h1 h2 i a a' h3 h4 => by
  rw [h1] at h2; cases h2; rw [h3] at h4; cases h4
  exact .plain a (Qer h l x (List.mem_of_getElem? h1) a (List.mem_of_getElem? h3))
end Go.Proofs.Ytgdepcgbjjgnfaa
