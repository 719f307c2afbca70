/-
  Plain laws on heads and units: bounds by prices, and what ProveShare accepts. No conditions.
-/
import Derived.Test.YtlhakkkjgdbdpaaPShb
namespace Go.Proofs.Ytlhakkkjgdbdpaa
open Go.RowKit
section
variable {N : Nat} {h p : List Int} {us : List GUnit}
def minI (f : Nat → Int) : Nat → Int
 | 0 => f 0
 | c + 1 => if f (c + 1) < minI f c then f (c + 1) else minI f c
theorem minI_le (f : Nat → Int) : ∀ (c k : Nat), k ≤ c → minI f c ≤ f k
 | 0, k, h => by rw [show k = 0 from by omega]; exact Int.le_refl _
 | c + 1, k, h => by
  rw [minI]
  rcases Nat.eq_or_lt_of_le h with rfl | hlt
  ·split <;> omega
  ·have := minI_le f c k (by omega)
   split <;> omega
theorem Qw1 (f : Nat → Int) : ∀ c : Nat, ∃ k, k ≤ c ∧ minI f c = f k
 | 0 => ⟨0, Nat.le_refl _, rfl⟩
 | c + 1 => by
  rw [minI]
  split
  ·exact ⟨c + 1, Nat.le_refl _, rfl⟩
  ·obtain ⟨k, h1, h2⟩ := Qw1 f c
   exact ⟨k, by omega, h2⟩
end
end Go.Proofs.Ytlhakkkjgdbdpaa
