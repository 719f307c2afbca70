/-
  Contracts of the function literals in Share, and words on slices that were made. No conditions beyond bounds.
-/
import Derived.Test.YtenpbiineblcjaaShareP
import Derived.Deep.AppendLies
namespace Go.Proofs.Ytenpbiineblcjaa
open Go.RowKit Go.Shelf

theorem share1 (W : World) (x : Int) : Calls Try.prog 64 (#[Vone (eInt.cells x)] ++ #[]) W fun e w' => e = .returned (.bool (inB x 0 1000)) ∧ Below W.heap.size W w' := by
  show Calls Try.prog 64 #[.int .i64 x] W _
  go_enter Try.func64, Try.ntmps64
  go_wp2_with (go_at_call 65; refine (within_any _ _ _ _).mono ?_; rintro e w' ⟨rfl, rfl⟩)
  go_ret
  exact ⟨rfl, Below.refl _ _⟩
theorem share2 (W : World) (x : Int) : Calls Try.prog 68 (#[Vone (eInt.cells x)] ++ #[]) W fun e w' => e = .returned (.bool (decide (0 < x))) ∧ Below W.heap.size W w' := by
  show Calls Try.prog 68 #[.int .i64 x] W _
  go_enter Try.func68, Try.ntmps68
  go_wp2
  go_ret
  exact ⟨rfl, Below.refl _ _⟩

theorem share3 (n m M : Int) (hn : 0 ≤ n) (hn1 : n ≤ 10000000000) (hm : 0 ≤ m) (hm1 : m ≤ 1000000) (hM : 0 ≤ M) (hM1 : M ≤ 1000000) (Bm B0 : Nat) (W : World) (c0 : W.cell? ⟨Bm, 0, none⟩ = some (.int .i64 m)) (c1 : W.cell? ⟨B0, 0, none⟩ = some (.int .i64 M)) :
    Calls Try.prog 70 #[.int .i64 n, .pointer (some ⟨Bm, 0, none⟩), .pointer (some ⟨B0, 0, none⟩)] W fun e w' => e = .returned (.int .i64 (n * m / max 1 M)) ∧ w' = W := by
  obtain ⟨p0, p1⟩ := mul_bd hn hn1 hm hm1
  have hx0 : 1 ≤ max 1 M := by omega
  have hx1 : ¬ max 1 M = 0 := by omega
  go_enter Try.func70, Try.ntmps70
  go_wp2
  go_ret
  exact ⟨rfl, rfl⟩

theorem str_info : (Try.prog.info? 42).map (fun i => (i.zero, i.size, i.bytes)) = some (some (.agg #[.int .i64 0, .int .i64 0, .int .i64 0, .int .i64 0]), 4, 32) := by kernel_rfl

/-- A slice value that reads as the elements zs, of blocks from base on. -/
def FreshOf {α : Type} (E : Enc α) (B : Nat) (w : World) (v : Value) (zs : List α) : Prop := ∃ A cap, v = .slice A zs.length cap ∧ zs.length ≤ cap ∧ Rds E w w.heap.size A zs ∧ ∀ b o, A = some ⟨b, o, none⟩ → B ≤ b

theorem Rds.setRow {α : Type} {E : Enc α} {w : World} {B g : Nat} {A : Option Addr} {zs : List α} (h : Rds E w B A zs) (cs : Array Value) (hA : ∀ b o, A = some ⟨b, o, none⟩ → g ≠ b) : Rds E (w.setRow g cs) B A zs := fun hn => by
  obtain ⟨b, o, e, hb, hc⟩ := h hn
  exact ⟨b, o, e, hb, fun j x hx i u hu => (cell?_setRow_else cs _ (fun h => hA b o e h.symm)).trans (hc j x hx i u hu)⟩

theorem flat_get {α : Type} (E : Enc α) : ∀ (zs : List α) (j : Nat) (x : α), zs[j]? = some x → ∀ (i : Nat) (u : Value), (E.cells x)[i]? = some u → (zs.flatMap E.cells)[j * E.size + i]? = some u
  | [], j, x, h, _, _, _ => by simp at h
  | y :: zs, 0, x, h, i, u, hu => by
    simp at h; subst h
    rw [List.flatMap_cons, Nat.zero_mul, Nat.zero_add, List.getElem?_append_left (by have := (List.getElem?_eq_some_iff.1 hu).1; exact this)]
    exact hu
  | y :: zs, j + 1, x, h, i, u, hu => by
    rw [List.flatMap_cons, List.getElem?_append_right (by rw [E.len, Nat.succ_mul]; omega), E.len, show (j + 1) * E.size + i - E.size = j * E.size + i by rw [Nat.succ_mul]; omega]
    exact flat_get E zs j x (by simpa using h) i u hu

theorem fresh_of_own {α : Type} (E : Enc α) {w : World} {base : Nat} {e : TypeId} {v : Value} {zs : List α} (h : w.ownsRow base e E.size v zs.length (zs.flatMap E.cells)) : FreshOf E base w v zs := by
  rcases h.2 with ⟨rfl, h0⟩ | ⟨g, cap, cur, rfl, hg, hh, hnc, _⟩
  · have : zs = [] := List.eq_nil_of_length_eq_zero h0
    subst this
    exact ⟨none, 0, rfl, Nat.le_refl _, Rds.nil _ _ _ _, fun b o e => by cases e⟩
  · refine ⟨some ⟨g, 0, none⟩, cap, rfl, hnc, fun _ => ⟨g, 0, rfl, (Array.getElem?_eq_some_iff.1 hh).1, fun j x hx i u hu => ?_⟩, fun b o e => by cases e; exact hg⟩
    have := h.cells (g := g) rfl _ u (flat_get E zs j x hx i u hu)
    rwa [Addr.add_lit, ← Nat.add_assoc] at this

theorem fresh_pos {B : Nat} {w : World} {v : Value} {l : List Int} (h : FreshInts B w v l) (hl : 0 < l.length) : ∃ g cap sp, v = .slice (some ⟨g, 0, none⟩) l.length cap ∧ B ≤ g ∧ l.length ≤ cap ∧ RowIs w g (vIs sp l) := by
  rcases h with ⟨h0, _⟩ | h
  · subst h0; simp at hl
  · exact h

end Go.Proofs.Ytenpbiineblcjaa
