/-
  The engine, part Y: what grows is written no more; append to nothing as a growing block of one's own. Plain laws; no conditions.
-/
import Derived.Test.YtlhakkkjgdbdpaaEngX
namespace Go.Proofs.Ytlhakkkjgdbdpaa
open Go.RowKit

section
variable {P : Program} {o : Oper} {X : Nat → Nat → Prop} {φ φ' : Nat → FSlot} {w : World}
end

section
variable {X : Nat → Nat → Prop} {φ0 : Nat → FSlot} {w0 : World} {s : AS}
/-- What grows is written no more. -/
inductive FzG (n m : Nat) (xs : List (List AV)) : AV → AV → Prop where
  | same (a : AV) : FzG n m xs a a
  | any (a : AV) : FzG n m xs a .any
  | gro (ty : TypeId) (len : Nat) (h : len = xs.length) : FzG n m xs (.gro n ty m len) (.dat m xs)
  | agg (l l' : List AV) (hl : l.length = l'.length) (h : ∀ (i : Nat) a a', l[i]? = some a → l'[i]? = some a' → FzG n m xs a a') : FzG n m xs (.agg l) (.agg l')
theorem qpw_dead {R : AV → AV → Prop} {own own' : List Slot} {q : Nat} (hq : q < own.length) (h : QPw R (own.set q .dead) own') : own'.getD q .unused = .dead ∧ ∀ k, k ≠ q → SPw R (own.getD k .unused) (own'.getD k .unused) := by
  obtain ⟨h1, h2⟩ := h.spec
  rw [List.length_set] at h1
  refine ⟨?_, fun k hk => ?_⟩
  · have := h2 q .dead (own'[q]'(by omega)) (by rw [List.getElem?_set_self hq]) (List.getElem?_eq_getElem (by omega))
    rw [List.getD_eq_getElem?_getD, List.getElem?_eq_getElem (by omega), Option.getD_some]
    generalize own'[q] = z at this
    cases this
    rfl
  · rcases Nat.lt_or_ge k own.length with hl | hl
    · have := h2 k own[k] (own'[k]'(by omega)) (by rw [List.getElem?_set_ne (Ne.symm hk), List.getElem?_eq_getElem hl]) (List.getElem?_eq_getElem (by omega))
      simpa [List.getD_eq_getElem?_getD, List.getElem?_eq_getElem hl, List.getElem?_eq_getElem (show k < own'.length by omega)] using this
    · simp only [List.getD_eq_getElem?_getD, List.getElem?_eq_none hl, List.getElem?_eq_none (show own'.length ≤ k by omega), Option.getD_none]
      exact .unused
theorem mor_fzq {n : Nat} (q : Nat) (l : List (Nat × AV)) {l' : List (Nat × AV)} {m : Nat} {xs : List (List AV)} {own' : List Slot} (hmask : maskL s.regs (mk n l) = mk n l) (hn : (s.regs.length == n && Nat.blt q s.own.length) = true) (hs : s.own.getD q .unused = .own m xs)
    (hr : PPw (Fz q m xs) l l') (ho : QPw (Fz q m xs) (s.own.set q .dead) own') : Mor X φ0 w0 s ⟨mk n l', own'⟩ := by
  simp only [Bool.and_eq_true, beq_iff_eq, Nat.blt_eq] at hn
  obtain ⟨h1, h2⟩ := qpw_dead hn.2 ho
  exact Mor.trans (mor_mask l hn.1 hmask) (mor_freeze (s := ⟨mk n l, s.own⟩) q hs (lpw_mk (.any _) n hr) h1 h2)
end
section
variable {X : Nat → Nat → Prop} {φ0 : Nat → FSlot} {w0 : World} {s : AS}
end
section
variable {X : Nat → Nat → Prop} {φ0 : Nat → FSlot} {w0 : World} {s : AS}
/-- Registers and boxes told more weakly. -/
theorem mor_lessq {n : Nat} (l : List (Nat × AV)) {l' : List (Nat × AV)} {own' : List Slot} (hmask : maskL s.regs (mk n l) = mk n l) (hn : (s.regs.length == n) = true) (hr : PPw Less l l') (ho : QPw Less s.own own') : Mor X φ0 w0 s ⟨mk n l', own'⟩ := by
  have hn' : s.regs.length = n := by simpa using hn
  refine Mor.trans (mor_mask l hn' hmask) (mor_morph (R := Less) (fun φ w henv => ⟨φ, Evo.refl, henv.distinct, fun k => ?_, fun a a' v h hv => h _ _ _ _ hv⟩) (lpw_mk Less.rfl n hr))
  obtain ⟨h1, h2⟩ := ho.spec
  have hsp : SPw Less (s.own.getD k .unused) (own'.getD k .unused) := by
    rcases Nat.lt_or_ge k s.own.length with hl | hl
    · have := h2 k s.own[k] (own'[k]'(by omega)) (List.getElem?_eq_getElem hl) (List.getElem?_eq_getElem (by omega))
      simpa [List.getD_eq_getElem?_getD, List.getElem?_eq_getElem hl, List.getElem?_eq_getElem (show k < own'.length by omega)] using this
    · simp only [List.getD_eq_getElem?_getD, List.getElem?_eq_none hl, List.getElem?_eq_none (show own'.length ≤ k by omega), Option.getD_none]
      exact .unused
  have hok : SlotOK X φ w k (s.own.getD k .unused) := henv.slot k
  have hR : ∀ a a' v, Less a a' → RelV X φ w a v → RelV X φ w a' v := fun a a' v h hv => h _ _ _ _ hv
  generalize s.own.getD k .unused = s1 at hsp hok
  generalize own'.getD k .unused = s2 at hsp
  cases hsp with
  | unused => exact hok
  | dead => exact hok
  | tok => exact hok
  | own m xs xs' hl' hp => obtain ⟨b, hb, hown⟩ := hok; exact ⟨b, hb, hown.pw hR hl' hp⟩
  | gro m xs xs' hl' hp =>
    rcases hok with ⟨h1, h2⟩ | ⟨b, hb, hown⟩
    · exact .inl ⟨List.eq_nil_of_length_eq_zero (by rw [← hl', h1]; rfl), h2⟩
    · exact .inr ⟨b, hb, hown.pw hR hl' hp⟩
  | far J => exact hok
  | mat m rows hp => exact hok
end
theorem spw_sameL {s : Slot} : SPw Less s s := SPw.refl (fun _ => Less.rfl) s
theorem spw_boxr {R : AV → AV → Prop} {m : Nat} {c c' : List AV} (h : LPw R c c') : SPw R (.own m [c]) (.own m [c']) := .own m _ _ rfl fun j x x' h1 h2 => by
  cases j with
  | zero => simp at h1 h2; subst h1 h2; exact h
  | succ j => simp at h1
theorem spw_same' {n m : Nat} {xs : List (List AV)} {s : Slot} : SPw (Fz n m xs) s s := SPw.refl (fun a => .same a) s
theorem Less.tup {l k : List AV} (h : LessL l k) : Less (.tup l) (.tup k) := fun X φ w v hv => by
  cases hv with
  | tup _ vs hs hr =>
    refine .tup k vs (hs.trans h.length) fun i a hi => ?_
    obtain ⟨b, hb, hl⟩ := h.get i a hi
    exact hl X φ w _ (hr i b hb)
theorem snl_grow {k m : Nat} {α : Type} {c : α → List AV} (h : ∀ x, ∀ a ∈ c x, NLt 0 a) (l : List α) : SNLt k (.gro m (l.map c)) := .gro m _ (nl_rows0 h l)
theorem srn_grow {M : Nat → Nat → Prop} {m : Nat} {α : Type} {c : α → List AV} {l : List α} (h : ∀ x, ∀ a ∈ c x, NLt 0 a) : SRn M (.gro m (l.map c)) (.gro m (l.map c)) :=
  .gro m _ _ rfl (fun j x x' h1 h2 => by rw [h1] at h2; cases h2; rfl) fun j x x' h1 h2 i a a' h3 h4 => by
    rw [h1] at h2; cases h2; rw [h3] at h4; cases h4
    exact .plain a (nl_rows h l x (List.mem_of_getElem? h1) a (List.mem_of_getElem? h3))
end Go.Proofs.Ytlhakkkjgdbdpaa
