/-
  Plain laws of Go's stable sort (blocks by insertion, merged by rotations): what comes out is in order, and what is equal stays in order. No conditions.
-/
import Derived.Test.YtlhakkkjgdbdpaaPPlant
namespace Go.Proofs.Ytlhakkkjgdbdpaa
open Go.RowKit
def keyP (x : GPiece) : Int := -x.Part.Gain
def Srt (l : List GPiece) : Prop := l.Pairwise fun a b => keyP a ≤ keyP b
def flt (k : Int) (l : List GPiece) : List GPiece := l.filter fun a => decide (keyP a = k)
theorem flt_mem {k : Int} {l : List GPiece} {x : GPiece} (h : x ∈ flt k l) : x ∈ l ∧ keyP x = k := by
 unfold flt at h
 simpa using h
theorem mem_flt {l : List GPiece} {x : GPiece} (h : x ∈ l) : x ∈ flt (keyP x) l := by
 unfold flt
 simp [h]
structure Stb (xs ys : List GPiece) : Prop where
 srt : Srt ys
 eqf : ∀ k, flt k ys = flt k xs
theorem Stb.mem {xs ys : List GPiece} (h : ∀ k, flt k ys = flt k xs) {x : GPiece} : x ∈ ys ↔ x ∈ xs :=
 ⟨fun hx => (flt_mem (h (keyP x) ▸ mem_flt hx)).1, fun hx => (flt_mem ((h (keyP x)).symm ▸ mem_flt hx)).1⟩
theorem flt_cnt : ∀ (l : List GPiece) (x : GPiece), l.count x = (flt (keyP x) l).count x := fun l x => by
 unfold flt
 rw [List.count_filter]
 simp
theorem Stb.perm {xs ys : List GPiece} (h : ∀ k, flt k ys = flt k xs) : ys.Perm xs := by
 rw [List.perm_iff_count]
 intro x
 rw [flt_cnt ys, flt_cnt xs, h]
theorem Stb.len {xs ys : List GPiece} (h : ∀ k, flt k ys = flt k xs) : ys.length = xs.length := (Stb.perm h).length_eq
theorem srt_nil : Srt [] := List.Pairwise.nil
section
variable {N len : Nat}
end
end Go.Proofs.Ytlhakkkjgdbdpaa
