/-
  Plain: either there is a plan, or an hour is short; the hours ahead of it have a plan, and with so much more in it the hours up to it have one. No conditions.
-/
import Derived.Test.YtgdepcgbjjgnfaaX23
import Derived.Test.YtgdepcgbjjgnfaaPCheL
namespace Go.Proofs.Ytgdepcgbjjgnfaa
open Go.RowKit
theorem Qqt {hs hs' : List GHour} {T S : Int} : ∀ i, (∀ j, j < i → hrs hs j = hrs hs' j ∧ useF hs j = useF hs' j) → yF hs T S i = yF hs' T S i
 | 0, _ => rfl
 | i + 1, h => by
  rw [yF, yF, Qqt i (fun j hj => h j (by omega)), (h i (Nat.lt_succ_self i)).1, (h i (Nat.lt_succ_self i)).2]
theorem Qpi {hs hs' : List GHour} {T S : Int} {i : Nat} (h : ∀ j, j ≤ i → hrs hs j = hrs hs' j ∧ useF hs j = useF hs' j) : ySum hs T S i = ySum hs' T S i := by
 unfold ySum
 rw [Qqt i (fun j hj => h j (by omega)), (h i (Nat.le_refl _)).1, (h i (Nat.le_refl _)).2]
theorem Qk8 {hs : List GHour} {n j : Nat} (h : j < n) : hrs (hs.take n) j = hrs hs j ∧ useF (hs.take n) j = useF hs j := by
 unfold hrs useF
 rw [List.getElem?_take_of_lt h]
 exact ⟨rfl, rfl⟩
theorem Qm6 {hs : List GHour} {i j : Nat} {x : GHour} (h : j ≠ i) : hrs (hs.set i x) j = hrs hs j ∧ useF (hs.set i x) j = useF hs j := by
 unfold hrs useF
 rw [List.getElem?_set_ne (Ne.symm h)]
 exact ⟨rfl, rfl⟩
theorem Qtu {hs : List GHour} {i : Nat} {x : GHour} (h : i < hs.length) : hrs (hs.set i x) i = x.Stairs ∧ useF (hs.set i x) i = x.Use := by
 unfold hrs useF
 rw [List.getElem?_set_self h]
 exact ⟨rfl, rfl⟩
theorem Qvl (N : Nat) (h : GHour) (k : (List GStair) × (List GHour) → Option (List GHour)) (q : List GHour) (hl : h.Stairs.length ≤ 1000) : ∀ (n i : Nat) (acc : List GStair), (h.Stairs.drop i).length < n → i ≤ h.Stairs.length → acc.length = i →
  Qdh N h k n i acc q = k (acc ++ h.Stairs.drop i, q) := by
 intro n
 induction n with
 | zero => intro i _ h; exact absurd h (Nat.not_lt_zero _)
 | succ n ih =>
  intro i acc hn hi hacc
  rw [Qdh]
  cases hd : h.Stairs.drop i with
  | nil =>
   have := Qfv hd
   simp [show ¬ ((i : Int) < h.Stairs.length) from by omega]
  | cons b l =>
   obtain ⟨hg, hd', hlt⟩ := Qfa hd
   have e1 : w64 ((i : Int) + 1) = ((i + 1 : Nat) : Int) := Qc3 (by omega) (by omega)
   simp only [show decide ((i : Int) < h.Stairs.length) = true from by simpa using hlt, cond_true, Qd2 hg, Option.bind_some, e1]
   rw [ih (i + 1) (acc ++ [b]) (by rw [hd']; rw [hd] at hn; simp at hn; omega) hlt (by simp [hacc]), hd']
   simp only [chk, show decide ((acc.length + [b].length) * 16 ≤ 140737488355328) = true from by simp; omega, cond_true, List.append_assoc, List.cons_append, List.nil_append]
theorem Qvm (N : Nat) (d : GDay) (k : List GHour → Option (List GHour)) (hN : 2000 ≤ N) (hf : FewP d) : ∀ (n i : Nat) (acc : List GHour), (d.Hours.drop i).length < n → i ≤ d.Hours.length → acc.length = i →
  Qc1 N d k n i acc = k (acc ++ d.Hours.drop i) := by
 intro n
 induction n with
 | zero => intro i _ h; exact absurd h (Nat.not_lt_zero _)
 | succ n ih =>
  intro i acc h hi hacc
  have hf1 := hf.1
  rw [Qc1]
  cases hd : d.Hours.drop i with
  | nil =>
   have := Qfv hd
   simp [show ¬ ((i : Int) < d.Hours.length) from by omega]
  | cons b l =>
   obtain ⟨hg, hd', hlt⟩ := Qfa hd
   have hb10 := hf.2 b (List.mem_of_getElem? hg)
   have e1 : w64 ((i : Int) + 1) = ((i + 1 : Nat) : Int) := Qc3 (by omega) (by omega)
   simp only [show decide ((i : Int) < d.Hours.length) = true from by simpa using hlt, cond_true, Qd2 hg, Option.bind_some, e1, Qcl]
   have h2 := Qvl N b (fun x => match x with | (y16, y17) => chk (decide ((y17.length + ([(⟨b.Use, y16⟩ : GHour)]).length) * 32 ≤ 140737488355328)) (Qc1 N d k n ((i + 1 : Nat) : Int) (y17 ++ ([(⟨b.Use, y16⟩ : GHour)])))) acc (by omega) N 0 [] (by simp; omega) (by omega) rfl
   rw [show ((0 : Nat) : Int) = 0 from rfl, List.drop_zero, List.nil_append] at h2
   rw [h2]
   dsimp only
   rw [ih (i + 1) (acc ++ [b]) (by rw [hd']; rw [hd] at h; simp at h; omega) hlt (by simp [hacc]), hd']
   simp only [chk, show decide ((acc.length + [(⟨b.Use, b.Stairs⟩ : GHour)].length) * 32 ≤ 140737488355328) = true from by simp; omega, cond_true, List.append_assoc, List.cons_append, List.nil_append]
theorem ownD_eq {N : Nat} {d : GDay} (hf : FewP d) (hN : 2000 ≤ N) : Qfj N d = some d.Hours := by
 unfold Qfj
 simp only [Qcl]
 have hf1 := hf.1
 have := Qvm N d (fun y2 => some y2) hN hf N 0 [] (by simp; omega) (by omega) rfl
 simpa using this
theorem Qsu {N : Nat} {d : GDay} (hN : 2000 ≤ N) (hf : FewP d) (hd : dayB d = true) (h : ∀ i, i < d.Hours.length → 0 ≤ ySum d.Hours d.Tank d.Start i) : ∃ r, Qbz N d = some r ∧ r.2.2.2 = 0 := by
 rcases Qnb hN hf hd with ⟨i, hi, _⟩ | ⟨_, pl, pr, e, _⟩
 ·have := h i hi.lt
  have := hi.neg
  omega
 ·exact ⟨_, e, rfl⟩
theorem Qsv {N : Nat} {d : GDay} (hN : 2000 ≤ N) (hf : FewP d) (hd : dayB d = true) {i : Nat} (hi : i < d.Hours.length) (h : ySum d.Hours d.Tank d.Start i < 0) : ∃ r, Qbz N d = some r ∧ r.2.2.2 = 7 := by
 rcases Qnb hN hf hd with ⟨_, _, e⟩ | ⟨hns, _⟩
 ·exact ⟨_, e, rfl⟩
 ·have := hns i hi
  omega
theorem Qp7 {N : Nat} {T S : Int} {hs : List GHour} (hN : 2000 ≤ N) (hf : FewP ⟨T, S, hs⟩) (hd : dayB ⟨T, S, hs⟩ = true) (h : ∀ i, i < hs.length → 0 ≤ ySum hs T S i) : ∃ r, Qbz N ⟨T, S, hs⟩ = some r ∧ r.2.2.2 = 0 := Qsu hN hf hd h
theorem Qwq {N : Nat} {T S : Int} {hs : List GHour} (hN : 2000 ≤ N) (hf : FewP ⟨T, S, hs⟩) (hd : dayB ⟨T, S, hs⟩ = true) {i : Nat} (hi : i < hs.length) (h : ySum hs T S i < 0) : ∃ r, Qbz N ⟨T, S, hs⟩ = some r ∧ r.2.2.2 = 7 := Qsv hN hf hd hi h
theorem Qq3 (d : GDay) (gd : Qv0 d) : Qfc (2000 + d.Hours.length) d = some true := by
 have hlen : d.Hours.length ≤ 9223372036854775807 := gd.2.2.1
 generalize hM : 2000 + d.Hours.length = N
 have hN : 2000 ≤ N := by omega
 obtain ⟨b, hb1, hb2⟩ := few_eq (N := N) hlen (by omega)
 unfold Qfc
 simp only [hb1, Option.bind_some, Qxq, Qcl]
 cases b with
 | false => rfl
 | true =>
  have hf := hb2 rfl
  simp only [Bool.not_true, cond_false, Qyz hf hN, ownD_eq hf hN, Option.bind_some, dayR_eq hf hN]
  cases hd : dayB d with
  | false => rfl
  | true =>
   have hdp := Qov hd
   have h24 := hdp.few
   obtain ⟨ht, hs, h1, _⟩ := Qss hd
   have hs : Qgw N d = (Qd4 N d).bind fun x => bif decide (x.1 < 0) then some (0, 0, 7) else some (x.1, x.2, 0) := by
    unfold Qgw
    simp only [Qwj hf hN, hd, Option.bind_some, Bool.not_true, cond_false]
   rcases Qmz hN hd with ⟨i, hi, p1, p2, e⟩ | ⟨hns, e⟩
   ·have hil := hi.lt
    obtain ⟨r0, c1, c2⟩ := Qsv hN hf hd hi.lt hi.neg
    generalize hby : - ySum d.Hours d.Tank d.Start i = by_ at *
    have hg : d.Hours[i]? = some d.Hours[i] := List.getElem?_eq_getElem hil
    generalize d.Hours[i] = h at hg
    obtain ⟨g1, g2⟩ := Qj5 hg
    have hu := hdp.use i hil
    have hhb : Qgm h = true := by
     simp only [dayB, Bool.and_eq_true] at hd
     exact List.all_eq_true.1 hd.2 _ (List.mem_of_getElem? hg)
    have hall : d.Hours.all Qgm = true := by simp only [dayB, Bool.and_eq_true] at hd; exact hd.2
    have hTS : btw d.Tank 0 1000000000 = true ∧ btw d.Start 0 d.Tank = true := by simp only [dayB, Bool.and_eq_true] at hd; exact hd.1.1
    have hne : (!d.Hours.isEmpty) = true := by
     cases hh : d.Hours with
     | nil => rw [hh] at h1; simp at h1
     | cons => rfl
    have other : ∀ l : List GHour, (∀ x ∈ l, Qgm x = true) → 1 ≤ l.length → l.length ≤ 24 → dayB ⟨d.Tank, d.Start, l⟩ = true ∧ FewP ⟨d.Tank, d.Start, l⟩ := fun l hl a b => by
     refine ⟨?_, ⟨show l.length ≤ 30 by omega, fun x hx => by have := (Qsm (hl x hx)).few; omega⟩⟩
     show (btw d.Tank 0 1000000000 && btw d.Start 0 d.Tank && btw (l.length : Int) 1 24 && l.all Qgm) = true
     rw [hTS.1, hTS.2, (Qkq (a := (l.length : Int))).2 ⟨by omega, by omega⟩, List.all_eq_true.2 hl]
     rfl
    have hsub : ∀ n, ∀ x ∈ d.Hours.take n, Qgm x = true := fun n x hx => List.all_eq_true.1 hall x (List.mem_of_mem_take hx)
    have eB : w64 ((i : Int) + 1) = ((i + 1 : Nat) : Int) := Qc3 (by omega) (by omega)
    have eU : w64 (h.Use - by_) = h.Use - by_ := Qc3 (by omega) (by omega)
    have eV : w64 (h.Use - by_ + 1) = h.Use - by_ + 1 := Qc3 (by omega) (by omega)
    have hset1 : ∀ y : GHour, (d.Hours.set i y)[i]? = some y := fun y => List.getElem?_set_self hil
    have hset2 : ∀ y z : GHour, (d.Hours.set i y).set i z = d.Hours.set i z := fun y z => List.set_set _
    have hst : ∀ u, 0 ≤ u → u ≤ h.Use → ∀ x ∈ (d.Hours.set i ⟨u, h.Stairs⟩).take (i + 1), Qgm x = true := fun u u0 u1 x hx => by
     rcases List.mem_or_eq_of_mem_set (List.mem_of_mem_take hx) with hm | hm
     ·exact List.all_eq_true.1 hall x hm
     ·subst hm
      unfold Qgm at hhb ⊢
      simp only [Bool.and_eq_true] at hhb ⊢
      have := Qkq.1 hhb.1.2
      exact ⟨⟨hhb.1.1, Qkq.2 ⟨u0, by omega⟩⟩, hhb.2⟩
    have hle : ∀ y : GHour, ((d.Hours.set i y).take (i + 1)).length = i + 1 := fun y => by simp; omega
    have hys : ∀ (y : GHour) j, j < i → ySum ((d.Hours.set i y).take (i + 1)) d.Tank d.Start j = ySum d.Hours d.Tank d.Start j := fun y j hj => Qpi fun k hk => by
     obtain ⟨a1, a2⟩ := Qk8 (hs := d.Hours.set i y) (n := i + 1) (j := k) (by omega)
     obtain ⟨b1, b2⟩ := Qm6 (hs := d.Hours) (x := y) (i := i) (j := k) (by omega)
     exact ⟨a1.trans b1, a2.trans b2⟩
    have hyi : ∀ u, ySum ((d.Hours.set i ⟨u, h.Stairs⟩).take (i + 1)) d.Tank d.Start i = ySum d.Hours d.Tank d.Start i + h.Use - u := fun u => by
     unfold ySum
     rw [Qqt (hs' := d.Hours) i fun k hk => by
      obtain ⟨a1, a2⟩ := Qk8 (hs := d.Hours.set i ⟨u, h.Stairs⟩) (n := i + 1) (j := k) (by omega)
      obtain ⟨b1, b2⟩ := Qm6 (hs := d.Hours) (x := ⟨u, h.Stairs⟩) (i := i) (j := k) (by omega)
      exact ⟨a1.trans b1, a2.trans b2⟩]
     obtain ⟨a1, a2⟩ := Qk8 (hs := d.Hours.set i ⟨u, h.Stairs⟩) (n := i + 1) (j := i) (by omega)
     obtain ⟨b1, b2⟩ := Qtu (hs := d.Hours) (x := ⟨u, h.Stairs⟩) hil
     rw [a1, a2, b1, b2, g1, g2]
     dsimp only
     omega
    obtain ⟨dA, fA⟩ := other _ (hst (h.Use - by_) (by omega) (by omega)) (by rw [hle]; omega) (by rw [hle]; omega)
    obtain ⟨rA, a1, a2⟩ := Qp7 hN fA dA (fun j hj => by
     have hj' : j < i + 1 := by rw [← hle]; exact hj
     rcases Nat.eq_or_lt_of_le (Nat.le_of_lt_succ hj') with rfl | hlt
     ·have := hyi (h.Use - by_); omega
     ·have := hys ⟨h.Use - by_, h.Stairs⟩ j hlt
      have := hi.ahead j hlt
      omega)
    obtain ⟨dB, fB⟩ := other _ (hst (h.Use - by_ + 1) (by omega) (by omega)) (by rw [hle]; omega) (by rw [hle]; omega)
    obtain ⟨rB, b1, b2⟩ := Qwq hN fB dB (i := i) (by rw [hle]; omega) (by have := hyi (h.Use - by_ + 1); omega)
    have part : (0 : Int) < i → ∃ r, Qbz N ⟨d.Tank, d.Start, d.Hours.take i⟩ = some r ∧ r.2.2.2 = 0 := fun hp => by
     obtain ⟨dC, fC⟩ := other (d.Hours.take i) (hsub i) (by simp; omega) (by simp; omega)
     exact Qp7 hN fC dC fun j hj => by
      have hj' : j < i := by simp at hj; omega
      have := hi.ahead j hj'
      rw [Qpi (hs' := d.Hours) fun k hk => Qk8 (by omega)]
      exact this
    have l1 : decide (i + 1 - (0 : Int).toNat ≤ (d.Hours.set i (⟨h.Use - by_, h.Stairs⟩ : GHour)).length) = true := decide_eq_true (by simp; omega)
    have l2 : decide (i + 1 - (0 : Int).toNat ≤ (d.Hours.set i (⟨h.Use - by_ + 1, h.Stairs⟩ : GHour)).length) = true := decide_eq_true (by simp; omega)
    have l3 : decide (i - (0 : Int).toNat ≤ d.Hours.length) = true := decide_eq_true (by simp; omega)
    have l4 : decide (i < i + 1 - (0 : Int).toNat) = true := decide_eq_true (by simp)
    have l5 : decide (0 ≤ ((i + 1 : Nat) : Int)) = true := decide_eq_true (by omega)
    have l6 : decide (((i + 1 : Nat) : Int) ≤ ((d.Hours.length : Nat) : Int)) = true := decide_eq_true (by omega)
    have l7 : decide ((0 : Int) < ((d.Hours.length : Nat) : Int)) = true := decide_eq_true (by omega)
    have l8 : decide (0 ≤ (i : Int)) = true := decide_eq_true (by omega)
    have l9 : decide ((i : Int) ≤ ((d.Hours.length : Nat) : Int)) = true := decide_eq_true (by omega)
    have l10 : decide ((i : Int) < 0) = false := decide_eq_false (by omega)
    have l11 : decide ((i : Int) ≥ (d.Hours.length : Int)) = false := decide_eq_false (by omega)
    have l12 : decide (by_ < 1) = false := decide_eq_false (by omega)
    have l13 : decide (by_ > h.Use) = false := decide_eq_false (by omega)
    have z0 : i - (0 : Int).toNat = i := by simp
    have z1 : i + 1 - (0 : Int).toNat = i + 1 := by simp
    have l14 : decide (i < i + 1) = true := decide_eq_true (by omega)
    rw [z1] at l1 l2
    rw [z0] at l3
    simp only [hs, e, Option.bind_some, l10, cond_false, c1, c2, show ((7 : Int) == 0) = false from rfl, show ((7 : Int) != 7) = false from rfl, show ((0 : Int) != 0) = false from rfl, l11, l12, chk, hne, cond_true, eB, l5, l6, l7, l8, l9, Int.toNat_natCast, z0, z1, l14, Bool.and_self, show decide ((0 : Int) ≤ 0) = true from rfl, hg, l13, eU, l1, a1, hset1, eV, hset2, l2, b1, a2, b2, show ((0 : Int) == 0) = true from rfl, show ((7 : Int) == 7) = true from rfl, l3]
    by_cases hp : 0 < i
    ·obtain ⟨rC, k1, k2⟩ := part (by omega)
     simp [hp, k1, k2]
    ·simp [hp]
   ·obtain ⟨r, c1, c2⟩ := Qsu hN hf hd hns
    simp [hs, e, c1, c2]
end Go.Proofs.Ytgdepcgbjjgnfaa
