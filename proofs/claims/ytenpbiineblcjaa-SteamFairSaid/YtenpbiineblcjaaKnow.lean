/-
  What is known of a world, as one term that is carried over new blocks and calls: rows, slices that read as lists, an elder world below. Plain words and instances; no conditions.
-/
import Derived.Test.YtenpbiineblcjaaSteamC
namespace Go.Proofs.Ytenpbiineblcjaa
open Go.RowKit Go.Shelf

/-- A word on a world that stays true where only new blocks come. -/
class Keeps (K : World → Prop) : Prop where
  keep : ∀ {W W' : World}, Below W.heap.size W W' → K W → K W'

def kUp (w : World) : World → Prop := fun W => Below w.heap.size w W
def kRow (b : Nat) (cs : Array Value) : World → Prop := fun W => RowIs W b cs
def kRds {α : Type} (E : Enc α) (A : Option Addr) (zs : List α) : World → Prop := fun W => Rds E W W.heap.size A zs
def kFor (p : Prop) : World → Prop := fun _ => p
def kAnd (K L : World → Prop) : World → Prop := fun W => K W ∧ L W

instance {w : World} : Keeps (kUp w) := ⟨fun hb h => Below.trans h (hb.mono (Below.size h))⟩
instance {b : Nat} {cs : Array Value} : Keeps (kRow b cs) := ⟨fun hb h => RowIs.below h hb (RowIs.lt h)⟩
instance {α : Type} {E : Enc α} {A : Option Addr} {zs : List α} : Keeps (kRds E A zs) := ⟨fun hb h => Rds.later h hb⟩
instance {p : Prop} : Keeps (kFor p) := ⟨fun _ h => h⟩
instance {K L : World → Prop} [Keeps K] [Keeps L] : Keeps (kAnd K L) := ⟨fun hb h => ⟨Keeps.keep hb h.1, Keeps.keep hb h.2⟩⟩

/-- Beside what is known, a word of it. -/
class Bears (K F : World → Prop) : Prop where
  gives : ∀ {W : World}, K W → F W
instance (priority := 2000) {F L : World → Prop} : Bears (kAnd F L) F := ⟨fun h => h.1⟩
instance {K L F : World → Prop} [Bears L F] : Bears (kAnd K L) F := ⟨fun h => Bears.gives (K := L) h.2⟩
instance (priority := 2000) {F : World → Prop} : Bears F F := ⟨fun h => h⟩

theorem Below.allocs {w W : World} (h : Below w.heap.size w W) (o : Obj) : Below w.heap.size w (W.alloc o) := h.alloc h.size o
theorem Below.drewNs {B : Nat} {w W : World} (h : Below B w W) (n : Nat) : Below B w (W.drewN n) :=
  ⟨h.os, h.tape, h.output, h.size, h.block⟩

/-- A slice that is known, in a later world. -/
theorem kget {α : Type} {K : World → Prop} {E : Enc α} {A : Option Addr} {zs : List α} {W W' : World} (hk : K W) [i : Bears K (kRds E A zs)] (hb : Below W.heap.size W W') : Rds E W' W'.heap.size A zs :=
  Keeps.keep (K := kRds E A zs) hb (i.gives hk)
theorem kup {K : World → Prop} {w W : World} (hk : K W) [i : Bears K (kUp w)] : Below w.heap.size w W := i.gives hk

theorem kafter {K : World → Prop} {W W' : World} (h : K W) [Keeps K] (hb : Below W.heap.size W W') : K W' := Keeps.keep hb h
theorem kcall {K : World → Prop} {W0 W W' : World} (h : K W0) [Keeps K] (up : Below W0.heap.size W0 W) (hb : Below W.heap.size W W') : K W' := Keeps.keep (up.trans (hb.mono up.size)) h
theorem kbox {K : World → Prop} {W : World} (h : K W) [Keeps K] (cs : Array Value) (t : TypeId) : kAnd (kRow W.heap.size cs) K (W.alloc (.cells cs t)) :=
  ⟨RowIs.new W cs t, Keeps.keep (Below.allocs (Below.refl _ _) _) h⟩
theorem kpass {K : World → Prop} {W : World} (h : K W) [Keeps K] (o : Obj) : K (W.alloc o) := Keeps.keep (Below.allocs (Below.refl _ _) _) h
theorem kdrew {K : World → Prop} {W : World} (h : K W) [Keeps K] : K W.drew := Keeps.keep ((Below.refl _ _).drew) h
theorem kdrewN {K : World → Prop} {W : World} (h : K W) [Keeps K] (n : Nat) : K (W.drewN n) := Keeps.keep (Below.drewNs (Below.refl _ _) n) h
theorem kadd {K F : World → Prop} {W : World} (h : K W) (hf : F W) : kAnd F K W := ⟨hf, h⟩

/-- What the walk reads off it. -/
class Tells (K : World → Prop) (F : outParam (World → Prop)) : Prop where
  told : ∀ {W : World}, K W → F W
theorem RowIs.cells {w : World} {g : Nat} {cs : Array Value} (h : RowIs w g cs) (j : Nat) : w.cell? ⟨g, j, none⟩ = cs[j]? := by
  obtain ⟨t, h⟩ := h
  exact cell_of_row w _ j _ _ _ h
instance {w : World} : Tells (kUp w) (fun W => w.heap.size ≤ W.heap.size) := ⟨fun h => Below.size h⟩
instance {b : Nat} {cs : Array Value} : Tells (kRow b cs) (fun W => (∀ j, W.cell? ⟨b, j, none⟩ = cs[j]?) ∧ b < W.heap.size) := ⟨fun h => ⟨RowIs.cells h, RowIs.lt h⟩⟩
instance {α : Type} {E : Enc α} {A : Option Addr} {zs : List α} : Tells (kRds E A zs) (fun _ => True) := ⟨fun _ => trivial⟩
instance {p : Prop} : Tells (kFor p) (fun _ => True) := ⟨fun _ => trivial⟩
instance {K L F G : World → Prop} [Tells K F] [Tells L G] : Tells (kAnd K L) (fun W => F W ∧ G W) := ⟨fun h => ⟨Tells.told h.1, Tells.told h.2⟩⟩
theorem ktells {K F : World → Prop} {W : World} (h : K W) [Tells K F] : F W := Tells.told h

/-- What is known, with the proof that it stays. -/
structure KK (K : World → Prop) (W : World) : Prop where
  holds : K W
  keeps : Keeps K
theorem kk {K : World → Prop} {W : World} [i : Keeps K] (h : K W) : KK K W := ⟨h, i⟩
theorem kkbox {K : World → Prop} {W : World} {cs : Array Value} {t : TypeId} (h : KK K W) : KK (kAnd (kRow W.heap.size cs) K) (W.alloc (.cells cs t)) :=
  have := h.keeps
  ⟨kbox h.holds cs t, inferInstance⟩
theorem kkdrew {K : World → Prop} {W : World} (h : KK K W) : KK K W.drew :=
  have := h.keeps
  ⟨kdrew h.holds, h.keeps⟩
theorem kkdrewN {K : World → Prop} {W : World} {n : Nat} (h : KK K W) : KK K (W.drewN n) :=
  have := h.keeps
  ⟨kdrewN h.holds n, h.keeps⟩
theorem kkalloc {K : World → Prop} {W : World} {o : Obj} (h : KK K W) : KK K (W.alloc o) :=
  have := h.keeps
  ⟨kpass h.holds o, h.keeps⟩
theorem know_at {P : Program} {f : FuncId} {args : Array Value} {R : Ending → World → Prop} {K : World → Prop} {W : World} (hk : KK K W) (h : K W → Calls P f args W R) : Calls P f args W R := h hk.holds
/-- The world at hand under a new name, of which K is known. -/
theorem know_here {P : Program} {c : Code} {Q : Exit → Act → World → Prop} {a : Act} {w : World} {K : World → Prop} (hk : KK K w) (h : ∀ W, K W → c.wp P Q a W) : c.wp P Q a w := h w hk.holds
end Go.Proofs.Ytenpbiineblcjaa
