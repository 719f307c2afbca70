/-
  Plain laws of Go's stable sort: merging two runs in place, and the whole. No conditions.
-/
import Derived.Test.YtlhakkkjgdbdpaaPSort
namespace Go.Proofs.Ytlhakkkjgdbdpaa
open Go.RowKit
section
variable {N len : Nat}
end
inductive Bl (bs : Nat) : List GPiece → Prop
 | short {l : List GPiece} : l.length ≤ bs → Srt l → Bl bs l
 | cons {l r : List GPiece} : l.length = bs → Srt l → Bl bs r → Bl bs (l ++ r)
theorem Bl.one {bs : Nat} {l : List GPiece} (h : Bl bs l) (hl : l.length ≤ bs) : Srt l := by
 cases h with
 | short _ hs => exact hs
 | cons h1 h2 h3 =>
  rename_i l r
  have : r = [] := List.eq_nil_of_length_eq_zero (by simp at hl; omega)
  rw [this, List.append_nil]
  exact h2
section
variable {N len : Nat}
theorem Bl.two {bs : Nat} (h0 : 1 ≤ bs) {S : List GPiece} (h : Bl bs S) (hl : bs < S.length) : ∃ L R, S = L ++ R ∧ L.length = bs ∧ Srt L ∧ Bl bs R := by
 cases h with
 | short h1 _ => omega
 | cons h1 h2 h3 => exact ⟨_, _, rfl, h1, h2, h3⟩
theorem Bl.next {bs : Nat} (h0 : 1 ≤ bs) {S : List GPiece} (h : Bl bs S) (hl : bs ≤ S.length) : ∃ L R, S = L ++ R ∧ L.length = bs ∧ Srt L ∧ Bl bs R := by
 rcases Nat.eq_or_lt_of_le hl with e | hlt
 ·exact ⟨S, [], by simp, e.symm, h.one (by omega), .short (Nat.zero_le _) srt_nil⟩
 ·exact h.two h0 hlt
end
end Go.Proofs.Ytlhakkkjgdbdpaa
