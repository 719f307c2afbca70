/-
  Plain: the cheapest plan of a day is one, with prices that show it, and its cost. No conditions.
-/
import Derived.Test.YtgdepcgbjjgnfaaPShw
namespace Go.Proofs.Ytgdepcgbjjgnfaa
open Go.RowKit
theorem Qoa (d : GDay) (gd : Qvx d) : Qe1 (2000 + d.Hours.length) d = some true := by
 have hlen : d.Hours.length ≤ 9223372036854775807 := gd.2.2.1
 generalize hM : 2000 + d.Hours.length = N
 have hN : 2000 ≤ N := by omega
 obtain ⟨b, hb1, hb2⟩ := few_eq (N := N) hlen (by omega)
 unfold Qe1
 simp only [hb1, Option.bind_some, Qxq, Qb4]
 cases b with
 | false => rfl
 | true =>
  have hf := hb2 rfl
  simp only [Bool.not_true, cond_false, Qy2 hf hN, Option.bind_some, dayR_eq hf hN]
  cases hd : dayB d with
  | false => simp [Qd9, Qou hf hN, hd, Qbr]
  | true =>
   obtain ⟨r, r1, r2⟩ := Qx0 hN hd
   simp only [Bool.not_true, cond_false, r2, Option.bind_some]
   rcases Qm7 hN hd with ⟨i, hi, _, _, e⟩ | ⟨hns, e⟩
   ·rw [r1] at e
    cases e
    rcases Qni hN hf hd with ⟨_, _, e2⟩ | ⟨hns, _⟩
    ·simp only [e2, Option.bind_some, show decide (((i : Nat) : Int) ≥ 0) = true from decide_eq_true (by omega), cond_true]
     rfl
    ·have := hns i hi.lt
     have := hi.neg
     omega
   ·rw [r1] at e
    cases e
    rcases Qni hN hf hd with ⟨i, hi, _⟩ | ⟨_, pl, pr, e2, l1, l2, hsh⟩
    ·have := hns i hi.lt
     have := hi.neg
     omega
    ·obtain ⟨b, b1, b2⟩ := Qtl (N := N) pl pr hN hd
     have hb := b2.2 ⟨l1, l2, hsh⟩
     subst hb
     rcases Qwi (N := N) pl hN hf hd with ⟨_, _, c2⟩ | ⟨c1, _⟩
     ·simp only [e2, Option.bind_some, show decide ((-1 : Int) ≥ 0) = false from rfl, cond_false, b1, c2]
      simp
     ·exact absurd ⟨l1, hsh.plan⟩ c1
end Go.Proofs.Ytgdepcgbjjgnfaa
