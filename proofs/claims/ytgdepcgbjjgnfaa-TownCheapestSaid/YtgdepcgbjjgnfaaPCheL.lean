/-
  Plain: ProveCheapest accepts what Cheapest returns, and no plan costs less than one that it accepts. No conditions.
-/
import Derived.Test.YtgdepcgbjjgnfaaPShw
namespace Go.Proofs.Ytgdepcgbjjgnfaa
open Go.RowKit
theorem Qlt {d : GDay} (hd : dayB d = true) : ∀ i, i < d.Hours.length → ∀ s ∈ hrs d.Hours i, 1 ≤ s.Amount := fun i hi s hs => ((Qly hd).ok i hi).1 s hs |>.1
theorem Qn8 {d : GDay} {x : Nat → Int} (h : PlanOK (hrs d.Hours) (useF d.Hours) d.Start d.Tank d.Hours.length x) : ∀ i, i < d.Hours.length → lev d.Start x (useF d.Hours) i ≤ ySum d.Hours d.Tank d.Start i := by
 intro i
 induction i with
 | zero =>
  intro hi
  have := h.fit 0 hi
  simp only [lev, ySum, yF]
  omega
 | succ i ih =>
  intro hi
  have h1 := ih (by omega)
  have h2 := h.fit (i + 1) hi
  have h3 := h.tank i (by omega)
  have e : yF d.Hours d.Tank d.Start (i + 1) = min (ySum d.Hours d.Tank d.Start i) d.Tank := rfl
  unfold ySum
  rw [e]
  simp only [lev]
  omega
theorem Qp4 (d : GDay) (plan prices other : List Int) (gd : Qxq d) (_ : Qpv plan) (_ : Qpv prices) (_ : Qpv other) : Qff (2000 + d.Hours.length) d plan prices other = some true := by
 have hlen : d.Hours.length ≤ 9223372036854775807 := gd.2.2.1
 generalize hM : 2000 + d.Hours.length = N
 have hN : 2000 ≤ N := by omega
 obtain ⟨b, hb1, hb2⟩ := few_eq (N := N) hlen (by omega)
 unfold Qff
 simp only [hb1, Option.bind_some, wakes_at, Qbw]
 cases b with
 | false => rfl
 | true =>
  have hf := hb2 rfl
  simp only [Bool.not_true, cond_false]
  by_cases p1 : (plan.length : Int) > 35
  ·simp [p1]
  by_cases p2 : (prices.length : Int) > 35
  ·simp [p1, p2]
  by_cases p3 : (other.length : Int) > 35
  ·simp [p1, p2, p3]
  simp only [p1, p2, p3, decide_false, cond_false, dayR_eq hf hN, Option.bind_some]
  cases hd : dayB d with
  | false => rfl
  | true =>
   simp only [Bool.not_true, cond_false, copyD_eq hf hN, Option.bind_some, Qlb (N := N) (show plan.length ≤ 1000 by omega), Qlb (N := N) (show prices.length ≤ 1000 by omega), Qlb (N := N) (show other.length ≤ 1000 by omega)]
   rcases Qvq hN hf hd with ⟨i, hi, e⟩ | ⟨hns, pl, pr, e, l1, l2, hsh⟩
   ·rcases Qjs (N := N) other hN hf hd with ⟨c, _⟩ | ⟨_, c⟩
    ·have h1 := Qn8 c.2 i hi.lt
     have h2 := (c.2.tank i hi.lt).1
     have := hi.neg
     omega
    ·simp [e, c]
   ·have l1' : pl.length ≤ 1000 := by have := Qke hd; omega
    have l2' : pr.length ≤ 1000 := by have := Qke hd; omega
    obtain ⟨b1, b2, b3⟩ := Qoi (N := N) pl pr hN hf hd
    have hb := b3.2 ⟨l1, l2, hsh⟩
    subst hb
    obtain ⟨q1, q2, q3⟩ := Qoi (N := N) plan prices hN hf hd
    rcases Qjs (N := N) pl hN hf hd with ⟨_, c2, _⟩ | ⟨c1, _⟩
    ·have rest : ∀ m : Int × Int, Qe5 N d plan = some m → (q1 = true → m = (sumN (fun i => Qez (hrs d.Hours i) (gt pl i)) d.Hours.length, 0)) := fun m hm hq => by
      obtain ⟨a1, a2, a3⟩ := q3.1 hq
      rcases Qjs (N := N) plan hN hf hd with ⟨_, c4, _⟩ | ⟨c4, _⟩
      ·rw [hm] at c4
       have w1 := Qpg (Qlt hd) hsh a3.plan
       have w2 := Qpg (Qlt hd) a3 hsh.plan
       rw [Int.le_antisymm w1 w2]
       exact Option.some.inj c4
      ·exact absurd ⟨a1, a3.plan⟩ c4
     obtain ⟨m, hm⟩ : ∃ m, Qe5 N d plan = some m := by
      rcases Qjs (N := N) plan hN hf hd with ⟨_, c4, _⟩ | ⟨_, c4⟩
      ·exact ⟨_, c4⟩
      ·exact ⟨_, c4⟩
     have hrest := rest m hm
     simp only [e, Option.bind_some, Qlb (N := N) l1', Qlb (N := N) l2', c2, b2, hm, q2]
     have fin : (bif !q1 then some true else bif m.2 == 0 then bif m.1 == sumN (fun j => Qez (hrs d.Hours j) (gt pl j)) d.Hours.length then some true else some false else some false) = some true := by
      cases q1 with
      | false => rfl
      | true => rw [hrest rfl]; simp
     rcases Qjs (N := N) other hN hf hd with ⟨⟨a1, a2⟩, c4, _⟩ | ⟨_, c4⟩
     ·have w1 := Qpg (Qlt hd) hsh a2
      have w2 : decide (sumN (fun i => Qez (hrs d.Hours i) (gt other i)) d.Hours.length < sumN (fun i => Qez (hrs d.Hours i) (gt pl i)) d.Hours.length) = false := decide_eq_false (by omega)
      simp [c4, w2, fin]
     ·simp [c4, fin]
    ·exact absurd ⟨l1, hsh.plan⟩ c1
end Go.Proofs.Ytgdepcgbjjgnfaa
