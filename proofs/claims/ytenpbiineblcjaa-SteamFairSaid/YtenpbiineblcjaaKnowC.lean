/-
  More words on what is known of a world: a cell; two words together. Plain words and instances; no conditions.
-/
import Derived.Test.YtenpbiineblcjaaGen
namespace Go.Proofs.Ytenpbiineblcjaa
open Go.RowKit Go.Shelf

instance (priority := 500) {K F G : World → Prop} [Bears K F] [Bears K G] : Bears K (kAnd F G) := ⟨fun h => ⟨Bears.gives h, Bears.gives h⟩⟩

/-- A cell. -/
def kC (b off : Nat) (v : Value) : World → Prop := fun W => W.cell? ⟨b, off, none⟩ = some v ∧ b < W.heap.size
instance {b off : Nat} {v : Value} : Keeps (kC b off v) := ⟨fun hb h => ⟨(Below.cell (p := ⟨b, off, none⟩) hb h.2).trans h.1, Nat.lt_of_lt_of_le h.2 hb.size⟩⟩
instance {b off : Nat} {v : Value} : Tells (kC b off v) (fun W => W.cell? ⟨b, off, none⟩ = some v ∧ b < W.heap.size) := ⟨fun h => h⟩
theorem kbear {K F : World → Prop} {W : World} (hk : K W) [i : Bears K F] : F W := i.gives hk
end Go.Proofs.Ytenpbiineblcjaa
