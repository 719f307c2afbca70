/-
  Plain words on memory and calls that all texts of this seat share: a slice that reads as a list of elements, facts carried over new blocks, a predicate handed over as a function value. No conditions.
-/
import Derived.Test.YtenpbiineblcjaaProg
import Derived.Test.YtenpbiineblcjaaSteamSpec
import Derived.WalkKit
import Derived.WalkSpells
import Derived.WalkLawsBesides
import Derived.Deep.QuietTactic
import Derived.BigQuiet
import Derived.Lib.Hide
import Derived.Deep.LoopGhost
import Derived.Deep.RegionHeld3
import Derived.Laws.EntriesVeiled
import Derived.Shelf.Abstract
namespace Go.Proofs.Ytenpbiineblcjaa
open Go.RowKit Go.Shelf

/-- An element of n cells: the list of what its cells hold. -/
structure Enc (α : Type) where
  size : Nat
  cells : α → List Value
  len : ∀ x, (cells x).length = size

variable {α β : Type}

/-- The slice whose address is A reads as the elements zs, below block B. -/
def Rds (E : Enc α) (w : World) (B : Nat) (A : Option Addr) (zs : List α) : Prop :=
  0 < zs.length → ∃ b o, A = some ⟨b, o, none⟩ ∧ b < B ∧ ∀ j x, zs[j]? = some x → ∀ i u, (E.cells x)[i]? = some u → w.cell? ⟨b, o + j * E.size + i, none⟩ = some u

theorem Rds.nil (E : Enc α) (w : World) (B : Nat) (A : Option Addr) : Rds E w B A [] := fun h => absurd h (by simp)

theorem Rds.below {E : Enc α} {w w' : World} {B B' : Nat} {A : Option Addr} {zs : List α} (h : Rds E w B A zs) (hb : Below B' w w') (hB : B ≤ B') : Rds E w' B A zs := fun hn => by
  obtain ⟨b, o, hA, hlt, hc⟩ := h hn
  exact ⟨b, o, hA, hlt, fun j x hx i u hu => (hb.cell (p := ⟨b, o + j * E.size + i, none⟩) (Nat.lt_of_lt_of_le hlt hB)).trans (hc j x hx i u hu)⟩

theorem Rds.more {E : Enc α} {w : World} {B B' : Nat} {A : Option Addr} {zs : List α} (h : Rds E w B A zs) (hB : B ≤ B') : Rds E w B' A zs := fun hn => by
  obtain ⟨b, o, hA, hlt, hc⟩ := h hn
  exact ⟨b, o, hA, by omega, hc⟩

theorem Rds.later {E : Enc α} {w w' : World} {A : Option Addr} {zs : List α} (h : Rds E w w.heap.size A zs) (hb : Below w.heap.size w w') : Rds E w' w'.heap.size A zs :=
  (h.below hb (Nat.le_refl _)).more hb.size

/-- The tail of a slice. -/
theorem Rds.drop {E : Enc α} {w : World} {B : Nat} {b o : Nat} {zs : List α} (k : Nat) (h : Rds E w B (some ⟨b, o, none⟩) zs) : Rds E w B (some ⟨b, o + k * E.size, none⟩) (zs.drop k) := fun hn => by
  have hl : k < zs.length := by simp at hn; omega
  obtain ⟨b', o', hA, hlt, hc⟩ := h (by omega)
  cases hA
  refine ⟨b, _, rfl, hlt, fun j x hx i u hu => ?_⟩
  rw [List.getElem?_drop] at hx
  have := hc _ _ hx i u hu
  rw [Nat.add_mul, ← Nat.add_assoc] at this
  exact this

theorem bcell {W w1 : World} (hb : Below W.heap.size W w1) : (∀ b o, b < W.heap.size → w1.cell? ⟨b, o, none⟩ = W.cell? ⟨b, o, none⟩) ∧ (∀ b o, b < W.heap.size → w1.frozen? ⟨b, o, none⟩ = W.frozen? ⟨b, o, none⟩) :=
  ⟨fun b o h => hb.cell (p := ⟨b, o, none⟩) h, fun b o h => hb.frozen (p := ⟨b, o, none⟩) h⟩

/-- The world at hand under a new name, of which just I is known. -/
theorem name_world {P : Program} {c : Code} {Q : Exit → Act → World → Prop} {a : Act} {w : World} (I : World → Prop) (h : I w) (k : ∀ W, I W → c.wp P Q a W) : c.wp P Q a w := k w h

/-- Block b holds just the cells cs, and may be written. -/
def Has (W : World) (b : Nat) (cs : List Value) : Prop := (∀ i, W.cell? ⟨b, i, none⟩ = cs[i]?) ∧ (∀ i, W.frozen? ⟨b, i, none⟩ = false) ∧ b < W.heap.size

theorem Has.new (W : World) (cs : List Value) (t : TypeId) : Has (W.alloc (.cells cs.toArray t)) W.heap.size cs := by
  refine ⟨fun i => ?_, fun i => ?_, by simp⟩
  · have h := heap_alloc_new W (.cells cs.toArray t)
    simp only [World.cell?, h]
    simp
  · have h := heap_alloc_new W (.cells cs.toArray t)
    simp only [World.frozen?, h]
    simp
theorem Has.alloc {W : World} {b : Nat} {cs : List Value} (h : Has W b cs) (o : Obj) : Has (W.alloc o) b cs := by
  obtain ⟨h1, h2, h3⟩ := h
  exact ⟨fun i => (World.cell?_alloc_lt W o ⟨b, i, none⟩ h3).trans (h1 i), fun i => by rw [← h2 i]; exact World.frozen?_of_block (heap_alloc_old W o h3), by simp; omega⟩
theorem Has.drewN {W : World} {b : Nat} {cs : List Value} (h : Has W b cs) (n : Nat) : Has (W.drewN n) b cs := h
theorem Has.drew {W : World} {b : Nat} {cs : List Value} (h : Has W b cs) : Has W.drew b cs := h
theorem Has.below {W W' : World} {B b : Nat} {cs : List Value} (h : Has W b cs) (hb : Below B W W') (hB : b < B) : Has W' b cs :=
  ⟨fun i => (hb.cell (p := ⟨b, i, none⟩) hB).trans (h.1 i), fun i => (hb.frozen (p := ⟨b, i, none⟩) hB).trans (h.2.1 i), Nat.lt_of_lt_of_le h.2.2 hb.size⟩
theorem Has.other {W : World} {b : Nat} {cs : List Value} (h : Has W b cs) {p : Addr} (hp : b ≠ p.block) (v : Value) : Has (W.setCell p v) b cs :=
  ⟨fun i => by rw [World.cell?_setCell_other W p ⟨b, i, none⟩ v (fun e => hp (by subst e; rfl))]; exact h.1 i, fun i => by rw [World.frozen?_setCell]; exact h.2.1 i, by simpa [World.setCell] using h.2.2⟩
theorem Has.set {W : World} {b : Nat} {cs : List Value} (h : Has W b cs) (k : Nat) (v : Value) : Has (W.setCell ⟨b, k, none⟩ v) b (cs.set k v) := by
  refine ⟨fun i => ?_, fun i => by rw [World.frozen?_setCell]; exact h.2.1 i, by simpa [World.setCell] using h.2.2⟩
  by_cases hk : k < cs.length
  · by_cases e : k = i
    · subst e
      rw [World.cell?_setCell_same' _ _ _ (by rw [h.1 k, List.getElem?_eq_getElem hk]; rfl)]
      simp [hk]
    · rw [World.cell?_setCell_other W ⟨b, k, none⟩ ⟨b, i, none⟩ v (by simp), h.1 i, List.getElem?_set_ne e]
  · rw [List.set_eq_of_length_le (by omega)]
    by_cases e : k = i
    · subst e
      have hn := h.1 k
      rw [List.getElem?_eq_none (by omega)] at hn ⊢
      revert hn
      simp only [World.cell?, World.setCell, Array.getElem?_modify]
      cases hw : W.heap[b]? with
      | none => simp
      | some o => cases o <;> simp_all
    · rw [World.cell?_setCell_other W ⟨b, k, none⟩ ⟨b, i, none⟩ v (by simp), h.1 i]

theorem has1 {w w1 : World} {c0 : List Value} {t0 : TypeId} (hb : Below (w.alloc (.cells c0.toArray t0)).heap.size (w.alloc (.cells c0.toArray t0)) w1) :
    Below w.heap.size w w1 ∧ Has w1 w.heap.size c0 :=
  ⟨((Below.refl _ _).alloc (Nat.le_refl _) _).trans (hb.mono (by simp)), (Has.new w c0 t0).below hb (by simp)⟩
theorem has2 {w w1 : World} {c0 c1 : List Value} {t0 t1 : TypeId} (hb : Below ((w.alloc (.cells c0.toArray t0)).alloc (.cells c1.toArray t1)).heap.size ((w.alloc (.cells c0.toArray t0)).alloc (.cells c1.toArray t1)) w1) :
    Below w.heap.size w w1 ∧ Has w1 w.heap.size c0 ∧ Has w1 (w.heap.size + 1) c1 :=
  ⟨(((Below.refl _ _).alloc (Nat.le_refl _) _).alloc (by simp) _).trans (hb.mono (by simp; omega)), ((Has.new w c0 t0).alloc _).below hb (by simp; omega), by have := (Has.new (w.alloc (.cells c0.toArray t0)) c1 t1).below hb (by simp); simpa using this⟩
theorem has3 {w w1 : World} {c0 c1 c2 : List Value} {t0 t1 t2 : TypeId} (hb : Below (((w.alloc (.cells c0.toArray t0)).alloc (.cells c1.toArray t1)).alloc (.cells c2.toArray t2)).heap.size (((w.alloc (.cells c0.toArray t0)).alloc (.cells c1.toArray t1)).alloc (.cells c2.toArray t2)) w1) :
    Below w.heap.size w w1 ∧ Has w1 w.heap.size c0 ∧ Has w1 (w.heap.size + 1) c1 ∧ Has w1 (w.heap.size + 1 + 1) c2 :=
  ⟨((((Below.refl _ _).alloc (Nat.le_refl _) _).alloc (by simp) _).alloc (by simp; omega) _).trans (hb.mono (by simp; omega)), (((Has.new w c0 t0).alloc _).alloc _).below hb (by simp; omega),
    by have := ((Has.new (w.alloc (.cells c0.toArray t0)) c1 t1).alloc (.cells c2.toArray t2)).below hb (by simp); simpa using this, by have := (Has.new ((w.alloc (.cells c0.toArray t0)).alloc (.cells c1.toArray t1)) c2 t2).below hb (by simp); simpa using this⟩

theorem hide {p : Prop} (h : p) : Hid p := h
theorem unhide {p : Prop} (h : Hid p) : p := h

/-- A function value (function g, with what it has captured) is asked: in every later world at the elements of D it answers p x and leaves what lay as it lay. -/
def Asks (P : Program) (g : Nat) (lb : Array Value) (E : Enc α) (V : List Value → Value) (D : α → Prop) (p : α → Bool) (w : World) : Prop :=
  ∀ (W : World) (x : α), D x → Below w.heap.size w W → Calls P g (#[V (E.cells x)] ++ lb) W fun e w' => e = .returned (.bool (p x)) ∧ Below W.heap.size W w'

theorem Asks.later {P : Program} {g : Nat} {lb : Array Value} {E : Enc α} {V : List Value → Value} {D : α → Prop} {p : α → Bool} {w W : World} (h : Asks P g lb E V D p w) (hb : Below w.heap.size w W) : Asks P g lb E V D p W :=
  fun W' x hd hb' => h W' x hd (hb.trans (hb'.mono hb.size))

/-- An element of several cells as a value; of one cell. -/
def Vagg (l : List Value) : Value := .agg l.toArray
def Vone (l : List Value) : Value := l.headD undef

/-- The first index of which p holds, from k on; -1 if there is none. -/
def findFrom (p : α → Bool) : List α → Nat → Int
  | [], _ => -1
  | x :: l, k => if p x then (k : Int) else findFrom p l (k + 1)

theorem findFrom_hit (p : α → Bool) : ∀ (l : List α) (s k : Nat) (x : α), l[k]? = some x → p x = true → (∀ (j : Nat) (y : α), j < k → l[j]? = some y → p y = false) → findFrom p l s = ((s + k : Nat) : Int)
  | [], _, k, _, h, _, _ => by simp at h
  | y :: l, s, 0, x, h, hp, _ => by
    simp at h; subst h; simp [findFrom, hp]
  | y :: l, s, k + 1, x, h, hp, hn => by
    have h0 := hn 0 y (by omega) rfl
    rw [findFrom, h0]
    simp only [Bool.false_eq_true, if_false]
    rw [findFrom_hit p l (s + 1) k x (by simpa using h) hp (fun j z hj hz => hn (j + 1) z (by omega) (by simpa using hz))]
    congr 1; omega

theorem findFrom_miss (p : α → Bool) : ∀ (l : List α) (s : Nat), (∀ (j : Nat) (y : α), l[j]? = some y → p y = false) → findFrom p l s = -1
  | [], _, _ => rfl
  | y :: l, s, h => by
    have h0 := h 0 y rfl
    rw [findFrom, h0]
    simp only [Bool.false_eq_true, if_false]
    exact findFrom_miss p l (s + 1) (fun j z hz => h (j + 1) z (by simpa using hz))

theorem findFrom_nonneg (p : α → Bool) : ∀ (l : List α) (s : Nat), decide (0 ≤ findFrom p l s) = l.any p
  | [], _ => by simp [findFrom]
  | y :: l, s => by
    by_cases h : p y
    · simp [findFrom, h]
    · have := findFrom_nonneg p l (s + 1)
      simp only [Bool.not_eq_true] at h
      simp [findFrom, h, ← this]

end Go.Proofs.Ytenpbiineblcjaa
