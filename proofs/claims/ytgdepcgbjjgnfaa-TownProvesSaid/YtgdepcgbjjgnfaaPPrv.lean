/-
  Plain: what ProveCheapest accepts is as the document says. No conditions.
-/
import Derived.Test.YtgdepcgbjjgnfaaX25
import Derived.Test.YtgdepcgbjjgnfaaPShw
namespace Go.Proofs.Ytgdepcgbjjgnfaa
open Go.RowKit
theorem Qni {α β : Type} (c : Bool) (x : Option α) (g : α → Option β) : (chk c x).bind g = chk c (x.bind g) := by cases c <;> rfl
theorem Qnj {α β : Type} (c : Bool) (x y : Option α) (g : α → Option β) : (bif c then x else y).bind g = bif c then x.bind g else y.bind g := by cases c <;> rfl
theorem cl1 {γ : Type} (N : Nat) (d : GDay) (y : List Int) (k : Int → Option (Int ⊕ (Int × List Int × List Int))) (g : Int ⊕ (Int × List Int × List Int) → Option (List Int × List Int × Int × Int)) : ∀ (n : Nat) (a b : Int),
  (Qc8 N d y k n a b).bind g = Qbl N d y (fun s => (k s).bind g) n a b
 | 0, _, _ => rfl
 | n + 1, a, b => by
  rw [Qc8, Qbl]
  simp only [Qnj, Option.bind_assoc, Qni, cl1 (γ := γ) N d y k g n]
theorem cl2 {γ : Type} (N : Nat) (d : GDay) (k : (Nat → Int) × (Nat → Int) × List Int × List Int → Option (Int ⊕ (Int × List Int × List Int))) (g : Int ⊕ (Int × List Int × List Int) → Option (List Int × List Int × Int × Int)) : ∀ (n : Nat) (a b : Int) (c e : Nat → Int) (f h : List Int),
  (Qc7 N d k n a b c e f h).bind g = Qb2 N d (fun s => (k s).bind g) n a b c e f h
 | 0, _, _, _, _, _, _ => rfl
 | n + 1, a, b, c, e, f, h => by
  rw [Qc7, Qb2]
  simp only [Qnj, Option.bind_assoc, Qni, cl2 (γ := γ) N d k g n]
theorem cl3 {γ : Type} (N : Nat) (d : GDay) (k : (Nat → Int) → Option (Int ⊕ (Int × List Int × List Int))) (g : Int ⊕ (Int × List Int × List Int) → Option (List Int × List Int × Int × Int)) : ∀ (n : Nat) (a : Int) (c : Nat → Int),
  (Qcj N d k n a c).bind g = Qb1 N d (fun s => (k s).bind g) n a c
 | 0, _, _ => rfl
 | n + 1, a, c => by
  rw [Qcj, Qb1]
  simp only [Qnj, Option.bind_assoc, Qni, cl3 (γ := γ) N d k g n]
def ofC (d : GDay) : Int ⊕ (Int × List Int × List Int) → Option (List Int × List Int × Int × Int) :=
 Sum.elim (fun e => some ([], [], 0, e)) (fun x => chk (decide (((d.Hours.length : Int).toNat) ≤ x.2.1.length)) <| chk (decide (((d.Hours.length : Int).toNat) ≤ x.2.2.length)) <| some (x.2.1.take ((d.Hours.length : Int).toNat), x.2.2.take ((d.Hours.length : Int).toNat), x.1, 0))
theorem cheap1 (N : Nat) (d : GDay) : (Qee N d).bind (ofC d) = Qen N d := by
 unfold Qee Qen
 simp only [Qnj, Option.bind_assoc, Qni, Qbr, cl3 (γ := Unit), cl2 (γ := Unit), cl1 (γ := Unit), Option.bind_some, ofC, Sum.elim_inl, Sum.elim_inr]
theorem Qvg {N : Nat} {l : List Int} (h : l.length ≤ 1000) : Qf8 N l = some l := by
 unfold Qf8
 simp only [chk, List.length_nil, Nat.zero_add, List.nil_append, decide_eq_true (show l.length * 8 ≤ 140737488355328 by omega), cond_true]
theorem Qtc (d : GDay) (plan prices : List Int) (own : Bool) (at_ by_ : Int) (gd : Qyw d) (_ : Qti plan) (_ : Qti prices) (_ : gd_bool own) (ga : gd_u8 at_) (_ : gd_i8 by_) : Qf9 (2000 + d.Hours.length) d plan prices own at_ by_ = some true := by
 have hlen : d.Hours.length ≤ 9223372036854775807 := gd.2.2.1
 have ha : 0 ≤ at_ ∧ at_ ≤ 255 := by
  have : (Lit.int .u8 at_).wf = true := ga
  have e1 : IntKind.u8.min = 0 := rfl
  have e2 : IntKind.u8.max = 255 := rfl
  simp [Lit.wf, e1, e2] at this
  omega
 generalize hM : 2000 + d.Hours.length = N
 have hN : 2000 ≤ N := by omega
 obtain ⟨b, hb1, hb2⟩ := few_eq (N := N) hlen (by omega)
 unfold Qf9
 simp only [hb1, Option.bind_some, wakes_at, Qbr]
 cases b with
 | false => rfl
 | true =>
  have hf := hb2 rfl
  simp only [Bool.not_true, cond_false]
  by_cases p1 : (plan.length : Int) > 35
  ·simp [p1]
  by_cases p2 : (prices.length : Int) > 35
  ·simp [p1, p2]
  simp only [p1, p2, decide_false, cond_false, dayR_eq hf hN, Option.bind_some, Qvg (N := N) (show plan.length ≤ 1000 by omega), Qvg (N := N) (show prices.length ≤ 1000 by omega), copyD_eq hf hN]
  have fin : ∀ y8 y9 : List Int, y8.length ≤ 1000 → y9.length ≤ 1000 → ((Qf6 N y8).bind fun x14 => (Qf6 N y9).bind fun x16 => (Qda N d x14 x16).bind fun x18 =>
    bif dayB d then (Qgn N d y8 y9).bind fun x21 => bif (x18 == x21) then some true else some false
    else bif (x18 == false) then some true else some false) = some true := fun y8 y9 h8 h9 => by
   simp only [Qvh (N := N) h8, Qvh (N := N) h9, Option.bind_some]
   cases hd : dayB d with
   | false =>
    have e : Qda N d y8 y9 = some false := by simp [Qda, Qto hf hN, hd, Qbr]
    simp [e]
   | true =>
    obtain ⟨b1, e1, i1⟩ := Qwi (N := N) y8 y9 hN hf hd
    obtain ⟨b2, e2, i2⟩ := Qwb (N := N) y8 y9 hN hd
    have : b1 = b2 := by
     cases b1 <;> cases b2 <;> simp_all
    subst this
    simp [e1, e2]
  have base := fin plan prices (by omega) (by omega)
  cases own with
  | false => simpa using base
  | true =>
   cases hd : dayB d with
   | false => rw [hd] at base; simpa using base
   | true =>
    rw [hd] at fin
    simp only [cond_true]
    have hc := cheap1 N d
    obtain ⟨⟨t0, t1⟩, ⟨s0, s1⟩, h1, h2⟩ := Qm0 hd
    have hn0 : (d.Hours.length : Int) ≠ 0 := by omega
    rcases Qwv hN hf hd with ⟨i, hi, e⟩ | ⟨hns, pl, pr, e, l1, l2, hsh⟩
    ·rw [e] at hc
     obtain ⟨x, hx, hy⟩ := Option.bind_eq_some_iff.1 hc
     rw [hx, Option.bind_some]
     cases x with
     | inl v =>
      simp only [ofC, Sum.elim_inl, Option.some.injEq, Prod.mk.injEq, true_and] at hy
      subst hy
      rfl
     | inr v =>
      exfalso
      simp only [ofC, Sum.elim_inr, chk] at hy
      cases h : decide (((d.Hours.length : Int).toNat) ≤ v.2.1.length) <;> rw [h] at hy
      ·cases hy
      cases h' : decide (((d.Hours.length : Int).toNat) ≤ v.2.2.length) <;> rw [h'] at hy
      ·cases hy
      simp at hy
    ·rw [e] at hc
     obtain ⟨x, hx, hy⟩ := Option.bind_eq_some_iff.1 hc
     rw [hx, Option.bind_some]
     cases x with
     | inl v =>
      simp only [ofC, Sum.elim_inl, Option.some.injEq, Prod.mk.injEq] at hy
      rw [← hy.1] at l1
      simp at l1
      omega
     | inr v =>
      simp only [ofC, Sum.elim_inr, chk] at hy
      obtain ⟨k1, hy⟩ : decide (((d.Hours.length : Int).toNat) ≤ v.2.1.length) = true ∧ (bif decide (((d.Hours.length : Int).toNat) ≤ v.2.2.length) then some (v.2.1.take ((d.Hours.length : Int).toNat), v.2.2.take ((d.Hours.length : Int).toNat), v.1, (0 : Int)) else none) = some (pl, pr, sumN (fun j => Qjl (hrs d.Hours j) (gt pl j)) d.Hours.length, 0) := by
       cases h : decide (((d.Hours.length : Int).toNat) ≤ v.2.1.length) <;> rw [h] at hy
       ·cases hy
       ·exact ⟨rfl, hy⟩
      have k2 : decide (((d.Hours.length : Int).toNat) ≤ v.2.2.length) = true := by
       rcases Bool.eq_false_or_eq_true (decide (((d.Hours.length : Int).toNat) ≤ v.2.2.length)) with h | h
       ·exact h
       ·rw [h] at hy; cases hy
      have q1 := of_decide_eq_true k1
      have q2 := of_decide_eq_true k2
      simp only [Int.toNat_natCast] at q1 q2
      have wa : w64 at_ = at_ := Qco (by omega) (by omega)
      have i1 : 0 ≤ at_.tmod (d.Hours.length : Int) ∧ at_.tmod (d.Hours.length : Int) < d.Hours.length := ⟨Int.tmod_nonneg _ ha.1, Int.tmod_lt_of_pos _ (by omega)⟩
      have wb : IntKind.wrap .u8 (at_.tdiv 16) = at_.tdiv 16 := by
       have : at_.tdiv 16 = at_ / 16 := Int.tdiv_eq_ediv_of_nonneg ha.1
       rw [this]
       show (at_ / 16) % 256 = at_ / 16
       exact Int.emod_eq_of_lt (by omega) (by omega)
      have wc : w64 (at_.tdiv 16) = at_.tdiv 16 := by
       have : at_.tdiv 16 = at_ / 16 := Int.tdiv_eq_ediv_of_nonneg ha.1
       rw [this]
       exact Qco (by omega) (by omega)
      have i2 : 0 ≤ (at_.tdiv 16).tmod (d.Hours.length : Int) ∧ (at_.tdiv 16).tmod (d.Hours.length : Int) < d.Hours.length := ⟨Int.tmod_nonneg _ (Int.tdiv_nonneg ha.1 (by omega)), Int.tmod_lt_of_pos _ (by omega)⟩
      have h24 : d.Hours.length ≤ 1000 := by omega
      have nz : ((d.Hours.length : Int) != 0) = true := by simp only [bne_iff_ne]; exact hn0
      have b2 : ((((d.Hours.length : Int).toNat : Nat) : Int) != (d.Hours.length : Int)) = false := by simp
      simp only [Sum.elim_inr, b2, cond_false, chk, nz, cond_true, wa, wb, wc]
      generalize at_.tmod (d.Hours.length : Int) = i at i1 ⊢
      generalize (at_.tdiv 16).tmod (d.Hours.length : Int) = k at i2 ⊢
      have g1 : (decide (0 ≤ i) && decide (i.toNat < (d.Hours.length : Int).toNat)) = true := by simp; omega
      have g2 : (decide (0 ≤ k) && decide (k.toNat < (d.Hours.length : Int).toNat)) = true := by simp; omega
      have a1 : v.2.2[i.toNat]? = some (v.2.2[i.toNat]'(by omega)) := List.getElem?_eq_getElem _
      have a2 : v.2.1[i.toNat]? = some (v.2.1[i.toNat]'(by omega)) := List.getElem?_eq_getElem _
      cases (by_.tmod 2) == 0 with
      | true =>
       simp only [cond_true, g1, a1, Option.bind_some, k1, List.length_set, k2]
       exact fin _ _ (by simp; omega) (by simp; omega)
      | false =>
       simp only [cond_false, cond_true, g1, g2, a2, Option.bind_some]
       generalize v.2.1[i.toNat]'_ = u
       have a3 : (v.2.1.set i.toNat (w64 (u + w64 by_)))[k.toNat]? = some ((v.2.1.set i.toNat (w64 (u + w64 by_)))[k.toNat]'(by simp; omega)) := List.getElem?_eq_getElem _
       simp only [a3, Option.bind_some, List.length_set, k1, k2, cond_true]
       exact fin _ _ (by simp; omega) (by simp; omega)
end Go.Proofs.Ytgdepcgbjjgnfaa
