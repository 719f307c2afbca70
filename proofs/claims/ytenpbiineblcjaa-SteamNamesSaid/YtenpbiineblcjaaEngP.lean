/-
  The engine, part P: from the arguments of a given statement to the engine's values. Plain laws; no conditions.
-/
import Derived.Test.YtenpbiineblcjaaEngO
import Derived.Test.YtenpbiineblcjaaOpen
namespace Go.Proofs.Ytenpbiineblcjaa
open Go.RowKit

def noX : Nat → Nat → Prop := fun _ _ => False
def noφ : Nat → FSlot := fun _ => .unused

theorem rel_lits {w : World} (vs : Array Value) {l : List AV} (h : l = vs.toList.map AV.lit) : RelV noX noφ w (.agg l) (.agg vs) := by
  subst h
  refine .agg _ vs (by simp) fun i a hi => ?_
  rw [List.getElem?_map] at hi
  cases hv : vs[i]? with
  | none => simp [hv] at hi
  | some v =>
    simp only [Array.getElem?_toList, hv, Option.map_some, Option.some.injEq] at hi
    subst hi
    rw [Array.getD_eq_getD_getElem?, hv]
    exact .lit v

/-- A slice that reads as a list is data. -/
theorem rel_rds {α β : Type} (E : Enc α) (f : α → β) (c : β → List AV) (hc : ∀ x, c (f x) = (E.cells x).map AV.lit) {w : World} {A : Option Addr} {zs : List α} {cap : Nat} (hr : Rds E w w.heap.size A zs) (hl : zs.length ≤ cap) (hm : cap ≤ maxLen) :
    RelV noX noφ w (.dat E.size ((zs.map f).map c)) (.slice A zs.length cap) := by
  rcases Nat.eq_zero_or_pos zs.length with h0 | hp
  · obtain rfl := List.eq_nil_of_length_eq_zero h0
    exact .dat _ _ A 0 cap (fun _ _ => undef) (DatOK.nil _ A cap _ hm) (by simp)
  · obtain ⟨b, o, hA, hb, hcell⟩ := hr hp
    have row : ∀ (j : Nat) y, ((zs.map f).map c)[j]? = some y → ∃ x, zs[j]? = some x ∧ y = (E.cells x).map AV.lit := fun j y hy => by
      rw [List.getElem?_map, List.getElem?_map] at hy
      cases hx : zs[j]? with
      | none => rw [hx] at hy; cases hy
      | some x => rw [hx] at hy; cases hy; exact ⟨x, rfl, hc x⟩
    refine .dat _ _ A _ cap (fun j i => (w.cell? ⟨b, o + j * E.size + i, none⟩).getD undef) ⟨by simp, hl, hm, fun y hy => ?_, fun _ => ⟨b, o, hA, fun j y hy i hi => ?_⟩⟩ fun j y hy i a ha => ?_
    · obtain ⟨j, hj, rfl⟩ := List.getElem_of_mem hy
      obtain ⟨x, _, e⟩ := row j _ (List.getElem?_eq_getElem hj)
      rw [e, List.length_map, E.len]
    · obtain ⟨x, hx, rfl⟩ := row j y hy
      obtain ⟨u, hu⟩ : ∃ u, (E.cells x)[i]? = some u := ⟨_, List.getElem?_eq_getElem (by rw [E.len]; exact hi)⟩
      refine ⟨⟨hb, fun h => h, (fun n h => by cases h), (fun n L h => by cases h), (fun n Y h => by cases h)⟩, ?_⟩
      rw [hcell j x hx i _ hu]
      rfl
    · obtain ⟨x, hx, rfl⟩ := row j y hy
      rw [List.getElem?_map] at ha
      cases hu : (E.cells x)[i]? with
      | none => rw [hu] at ha; cases ha
      | some u =>
        rw [hu] at ha; cases ha
        rw [hcell j x hx i u hu]
        exact .lit u

def RelL (w : World) : List AV → List Value → Prop
  | [], [] => True
  | a :: l, v :: k => RelV noX noφ w a v ∧ RelL w l k
  | _, _ => False
theorem RelL.get {w : World} : ∀ {l : List AV} {k : List Value}, RelL w l k → k.length = l.length ∧ ∀ i a, l[i]? = some a → RelV noX noφ w a (k.getD i undef)
  | [], [], _ => ⟨rfl, by simp⟩
  | _ :: _, _ :: _, h => by
    obtain ⟨h1, h2⟩ := RelL.get h.2
    refine ⟨by simp [h1], fun i a hi => ?_⟩
    cases i with
    | zero => simp at hi; subst hi; exact h.1
    | succ i => simpa using h2 i a (by simpa using hi)
/-- A law that is shown to return true. -/
theorem law_calls {P : Program} {f : FuncId} {args : List AV} (h : Spec P f args [] (B true) []) {w : World} {vals : Array Value} (hr : RelL w args vals.toList) : Calls P f vals w fun e w' => e = .returned (.bool true) ∧ Below w.heap.size w w' := by
  obtain ⟨h1, h2⟩ := hr.get
  refine (h.calls (X := noX) (φ := noφ) (by simpa using h1) (fun i a hi => ?_) (fun _ => rfl) (fun _ _ h => h.elim)).mono ?_
  · have := h2 i a hi
    simpa [Array.getD_eq_getD_getElem?, List.getD_eq_getElem?_getD] using this
  · rintro e w' ⟨v, φ', rfl, hv, hb⟩
    rw [rel_lit hv]
    exact ⟨rfl, hb⟩
end Go.Proofs.Ytenpbiineblcjaa
