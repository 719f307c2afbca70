/-
  Plain laws on nets: ports and what is valid. No conditions but small sizes.
-/
import Derived.Test.YtmbhnllcfmiajaaPV6
namespace Go.Proofs.Ytmbhnllcfmiajaa
open Go.RowKit
def pq (p : GPort) : Int × Int := (p.Element, p.Outlet)
def Qve (els : List GElement) (i : Nat) (lv : Int) (u : List (Int × Int)) (p : GPort) : Bool :=
 btw p.Element 0 ((i : Int) - 1) && (match getI els p.Element with | some y => btw p.Outlet 0 (outl y - 1) && decide (lv ≤ y.Level) | none => false) && !u.contains (pq p)
def Qkc (els : List GElement) (i : Nat) (lv : Int) : List (Int × Int) → List GPort → Bool
 | _, [] => true
 | u, p :: l => Qve els i lv u p && Qkc els i lv (u ++ [pq p]) l
def Qr0 (n : Int) (els : List GElement) : Nat → List (Int × Int) → List GElement → Bool
 | _, _, [] => true
 | i, u, x :: l => btw x.Level 0 (n - 1) && Qkc els i x.Level u x.From && Qr0 n els (i + 1) (u ++ x.From.map pq) l
def netB (n : GNet) : Bool := tabB n.Table && btw n.Elements.length 1 16 && n.Elements.all Qi8 && Qr0 n.Table.length n.Elements 0 [] n.Elements
structure Small (n : GNet) : Prop where
 t : n.Table.length ≤ 25
 e : n.Elements.length ≤ 18
 x : ∀ x ∈ n.Elements, x.From.length ≤ 25 ∧ x.Weights.length ≤ 25
theorem Zdb {x : GElement} (h : x.Weights.length ≤ 25) : 0 ≤ outl x ∧ outl x ≤ 25 := by
 unfold outl
 split
 ·omega
 ·split <;> omega
theorem Zdt {els : List GElement} {a : Int} {i : Nat} (h : btw a 0 ((i : Int) - 1) = true) (hi : i ≤ els.length) : ∃ y, getI els a = some y ∧ y ∈ els := by
 obtain ⟨h1, h2⟩ := Qeq.1 h
 have hlt : a.toNat < els.length := by omega
 exact ⟨els[a.toNat], by unfold getI; rw [if_pos h1, List.getElem?_eq_getElem hlt], List.getElem_mem hlt⟩
section
variable {N : Nat} {n : GNet} (hs : Small n) (hN : 1001 ≤ N)
include hs hN
omit hN in
theorem Q15 {i : Nat} (hi : i < n.Elements.length) {x : GElement} (hx : x.From.length ≤ 25) (k : List (Int × Int) → Option Bool) : ∀ (m j : Nat) (u : List (Int × Int)), (x.From.drop j).length < m →
  Qdc N n i k x m j u = bif Qkc n.Elements i x.Level u (x.From.drop j) then k (u ++ (x.From.drop j).map pq) else some false := by
 intro m
 induction m with
 | zero => intro j _ h; exact absurd h (Nat.not_lt_zero _)
 | succ m ih =>
  intro j u h
  rw [Qdc]
  cases hd : x.From.drop j with
  | nil =>
   have := Qfg hd
   simp [show ¬ ((j : Int) < x.From.length) from by omega, Qkc]
  | cons p l =>
   obtain ⟨hg, hd', hlt⟩ := Qeg hd
   have e0 := hs.e
   simp only [show decide ((j : Int) < x.From.length) = true from by simpa using hlt, cond_true, Qd9 hg, Option.bind_some, Qjd, Qkc, Qve]
   rw [Qbw (x := (i : Int) - 1) (by omega) (by omega)]
   cases hb : btw p.Element 0 ((i : Int) - 1) with
   | false => rfl
   | true =>
    obtain ⟨y, hy, hym⟩ := Zdt hb (Nat.le_of_lt hi)
    obtain ⟨o0, o1⟩ := Zdb (hs.x y hym).2
    simp only [Bool.not_true, cond_false, hy, Option.bind_some, Zdc, Bool.true_and]
    rw [Qbw (x := outl y - 1) (by omega) (by omega)]
    cases hc : btw p.Outlet 0 (outl y - 1) with
    | false => rfl
    | true =>
     simp only [Bool.not_true, cond_false, Bool.true_and]
     show (bif u.contains (pq p) then some false else _) = _
     cases hu : u.contains (pq p) with
     | true => simp
     | false =>
      simp only [cond_false, Bool.not_false, Bool.and_true]
      by_cases hl : x.Level > y.Level
      ·rw [decide_eq_true hl, decide_eq_false (by omega)]; rfl
      ·rw [decide_eq_false hl, decide_eq_true (by omega), cond_false, Qbw (x := (j : Int) + 1) (by omega) (by omega), show (j : Int) + 1 = ((j + 1 : Nat) : Int) by omega,
        ih (j + 1) _ (by rw [hd']; rw [hd] at h; simp at h; omega), hd']
       have ea : addQ u (p.Element, p.Outlet) = u ++ [pq p] := by
        unfold addQ
        rw [show u.contains (p.Element, p.Outlet) = false from hu]; rfl
       rw [ea, Bool.true_and, List.map_cons, List.append_assoc]
       rfl
theorem Q6s (k : Unit → Option Bool) : ∀ (m i : Nat) (u : List (Int × Int)), (n.Elements.drop i).length < m →
  Qc2 N n k m i u = bif Qr0 n.Table.length n.Elements i u (n.Elements.drop i) then k () else some false := by
 intro m
 induction m with
 | zero => intro i _ h; exact absurd h (Nat.not_lt_zero _)
 | succ m ih =>
  intro i u h
  rw [Qc2]
  cases hd : n.Elements.drop i with
  | nil =>
   have := Qfg hd
   simp [show ¬ ((i : Int) < n.Elements.length) from by omega, Qr0]
  | cons x l =>
   obtain ⟨hg, hd', hlt⟩ := Qeg hd
   have e0 := hs.e
   have e1 := hs.t
   have hx := hs.x x (List.mem_of_getElem? hg)
   simp only [show decide ((i : Int) < n.Elements.length) = true from by simpa using hlt, cond_true, Qcv, Qd9 hg, Option.bind_some, Qjd, Qr0]
   rw [Qbw (x := (n.Table.length : Int) - 1) (by omega) (by omega)]
   cases hb : btw x.Level 0 ((n.Table.length : Int) - 1) with
   | false => rfl
   | true =>
    have := Q15 (N := N) hs hlt hx.1 (fun y9 => Qc2 N n k m (w64 ((i : Int) + 1)) y9) N 0 u (by simp; omega)
    rw [List.drop_zero] at this
    simp only [Bool.not_true, cond_false, Bool.true_and]
    refine this.trans ?_
    cases Qkc n.Elements i x.Level u x.From with
    | false => rfl
    | true =>
     rw [cond_true, Qbw (x := (i : Int) + 1) (by omega) (by omega), show (i : Int) + 1 = ((i + 1 : Nat) : Int) by omega, ih (i + 1) _ (by rw [hd']; rw [hd] at h; simp at h; omega), hd', Bool.true_and]
theorem Zfl : Qdr N n.Elements = some (n.Elements.all Qi8) := by
 have e0 := hs.e
 have hc : Qbj N n.Elements = some (n.Elements.any fun x => !Qi8 x) := by
  unfold Qbj Qb2 Qcv
  have gen : ∀ (m j : Nat), (n.Elements.drop j).length < m → (Qay N n.Elements (fun _ => some (-1)) m j).bind (fun x => some (decide (x ≥ 0))) = some ((n.Elements.drop j).any fun x => !Qi8 x) := by
   intro m
   induction m with
   | zero => intro j h; exact absurd h (Nat.not_lt_zero _)
   | succ m ih =>
    intro j h
    rw [Qay]
    cases hd : n.Elements.drop j with
    | nil =>
     have := Qfg hd
     simp [show ¬ ((j : Int) < n.Elements.length) from by omega]
    | cons x l =>
     obtain ⟨hg, hd', hlt⟩ := Qeg hd
     have hx := hs.x x (List.mem_of_getElem? hg)
     simp only [show decide ((j : Int) < n.Elements.length) = true from by simpa using hlt, cond_true, Qd9 hg, Option.bind_some, Qeb, Q7f (show x.Weights.length ≤ 1000 by omega) hN, List.any_cons]
     cases Qi8 x with
     | false => simp
     | true =>
      rw [Bool.not_true, cond_false, Qbw (x := (j : Int) + 1) (by omega) (by omega), show (j : Int) + 1 = ((j + 1 : Nat) : Int) by omega, ih (j + 1) (by rw [hd']; rw [hd] at h; simp at h; omega), hd', Bool.false_or]
  have := gen N 0 (by simp; omega)
  rw [List.drop_zero] at this
  exact this
 unfold Qdr
 rw [hc, Option.bind_some, Qrq]
theorem Zdi : Qgc N n = some (netB n) := by
 have e0 := hs.e
 have e1 := hs.t
 unfold Qgc netB Qgz
 simp only [Qcv, Qqi (show n.Table.length ≤ 1000 by omega) hN, Option.bind_some, Qjd, Zfl hs hN]
 cases tabB n.Table with
 | false => rfl
 | true =>
  simp only [Bool.not_true, cond_false, Option.bind_some, Bool.true_and, show ((0 : Int) != 0) = false from rfl]
  cases btw n.Elements.length 1 16 with
  | false => rfl
  | true =>
   cases n.Elements.all Qi8 with
   | false => rfl
   | true =>
    have := Q6s hs hN (fun _ => some true) N 0 [] (by simp; omega)
    rw [List.drop_zero] at this
    simp only [Bool.not_true, cond_false, Bool.true_and]
    refine this.trans ?_
    cases Qr0 n.Table.length n.Elements 0 [] n.Elements <;> rfl
omit hs in
omit hs hN in
end
end Go.Proofs.Ytmbhnllcfmiajaa
