/-
  Plain: what is missing in a town, by the program and by the document. No conditions.
-/
import Derived.Test.YtgdepcgbjjgnfaaPMet
namespace Go.Proofs.Ytgdepcgbjjgnfaa
open Go.RowKit
def estT (ms : GMeters) (W : Nat → GRange) (k : Nat) : GRange := if hasT ms k then Qk0 ms k else W k
def lw (o : Int) (x : GNode) : Int := if o > 0 then w64 (o + x.Loss) else o
def chF (t : List GNode) (f : Nat → Int) (j : Nat) : Nat → Nat → Int
  | 0, _ => 0
  | d + 1, a => (match t[a]? with | some x => if x.Parent = (j : Int) then f a else 0 | none => 0) + chF t f j d (a + 1)
theorem Qnf {t : List GNode} {f g : Nat → Int} (j : Nat) : ∀ (d a : Nat), (∀ k, a ≤ k → f k = g k) → chF t f j d a = chF t g j d a
  | 0, _, _ => rfl
  | d + 1, a, h => by rw [chF, chF, Qnf j d (a + 1) (fun k hk => h k (by omega)), h a (Nat.le_refl a)]
def loT (t : List GNode) (ms : GMeters) (W : Nat → GRange) (j d a : Nat) : Int := chF t (fun k => (estT ms W k).Lo) j d a
def hiT (t : List GNode) (ms : GMeters) (W : Nat → GRange) (j d a : Nat) : Int := chF t (fun k => (estT ms W k).Hi) j d a
theorem Qqp {t : List GNode} {ms : GMeters} {W V : Nat → GRange} (j d a : Nat) (h : ∀ k, a ≤ k → W k = V k) : loT t ms W j d a = loT t ms V j d a :=
  Qnf j d a fun k hk => by unfold estT; rw [h k hk]
theorem Qqr {t : List GNode} {ms : GMeters} {W V : Nat → GRange} (j d a : Nat) (h : ∀ k, a ≤ k → W k = V k) : hiT t ms W j d a = hiT t ms V j d a :=
  Qnf j d a fun k hk => by unfold estT; rw [h k hk]
def wT (t : List GNode) (ms : GMeters) (W : Nat → GRange) (i : Nat) (x : GNode) : GRange :=
  ⟨lw (w64 ((useT ms i).Lo + loT t ms W i (t.length - (i + 1)) (i + 1))) x, lw (w64 ((useT ms i).Hi + hiT t ms W i (t.length - (i + 1)) (i + 1))) x⟩
theorem Qs5 {t : List GNode} {ms : GMeters} {W V : Nat → GRange} (i : Nat) (x : GNode) (h : ∀ k, i < k → W k = V k) : wT t ms W i x = wT t ms V i x := by
  unfold wT
  rw [Qqp i _ _ (fun k hk => h k (by omega)), Qqr i _ _ (fun k hk => h k (by omega))]
def Ql4 (ms : GMeters) (W : Nat → GRange) (i : Nat) : GRange := if hasT ms i then ⟨w64 ((Qk0 ms i).Lo - (W i).Hi), w64 ((Qk0 ms i).Hi - (W i).Lo)⟩ else ⟨0, 0⟩
theorem Qn4 (N : Nat) {t : List GNode} {ms : GMeters} (ht : Qg6 t = true) (hs : SameLen t ms) (hm : metB ms t.length 0 = true) (k : List GRange → Option (List GRange × Int)) : ∀ (m : Nat) (W : Nat → GRange) (out sums : List GRange), m ≤ t.length → out.length = t.length → sums.length = t.length →
    (∀ i x, m ≤ i → t[i]? = some x → W i = wT t ms W i x) → (∀ i, m ≤ i → i < t.length → out[i]? = some (Ql4 ms W i)) → (∀ i, i < m → out[i]? = some ⟨0, 0⟩) →
    (∀ j, j < m → sums[j]? = some ⟨w64 (loT t ms W j (t.length - m) m), w64 (hiT t ms W j (t.length - m) m)⟩) →
    ∃ W' out', (∀ i x, t[i]? = some x → W' i = wT t ms W' i x) ∧ out'.length = t.length ∧ (∀ i, i < t.length → out'[i]? = some (Ql4 ms W' i)) ∧ Qa8 N t ms k (Qq3 t m) out sums = k out'
  | 0, W, out, sums, _, ho, _, hW, hout, _, _ => ⟨W, out, fun i x hx => hW i x (Nat.zero_le i) hx, ho, fun i hi => hout i (Nat.zero_le i) hi, by rw [Qq3, Qa8]⟩
  | m + 1, W, out, sums, hmt, ho, hsl, hW, hout, hz, hsum => by
    obtain ⟨l1, l2, l3⟩ := hs
    have hx : t[m]? = some (t[m]'(by omega)) := List.getElem?_eq_getElem _
    generalize t[m]'(by omega) = x at hx
    have hn := Qft ht hx
    have hsm := hsum m (Nat.lt_succ_self m)
    obtain ⟨mu, mf⟩ := Qwd hm m (Nat.zero_le m) (by omega)
    have hWm : ∀ k, m < k → W k = (fun i => if i = m then wT t ms W m x else W i) k := fun k hk => by simp [show k ≠ m by omega]
    have hlast : (fun i => if i = m then wT t ms W m x else W i) m = wT t ms W m x := by simp
    generalize hV : (fun i => if i = m then wT t ms W m x else W i) = V at hWm hlast
    have hVW : ∀ i x, m ≤ i → t[i]? = some x → V i = wT t ms V i x := fun i y hi hy => by
      rcases Nat.lt_or_ge m i with hlt | hge
      · rw [← hWm i hlt, hW i y hlt hy]
        exact Qs5 i y fun k hk => hWm k (by omega)
      · have : i = m := by omega
        subst this
        rw [hx] at hy
        cases hy
        rw [hlast]
        exact Qs5 i x fun k hk => hWm k hk
    have eLo : w64 (w64 (loT t ms W m (t.length - (m + 1)) (m + 1)) + (useT ms m).Lo) = w64 ((useT ms m).Lo + loT t ms W m (t.length - (m + 1)) (m + 1)) := by rw [Qhp, Int.add_comm]
    have eHi : w64 (w64 (hiT t ms W m (t.length - (m + 1)) (m + 1)) + (useT ms m).Hi) = w64 ((useT ms m).Hi + hiT t ms W m (t.length - (m + 1)) (m + 1)) := by rw [Qhp, Int.add_comm]
    have hmt' : decide (m < t.length) = true := by simp; omega
    have hround : ∀ (q : List (Int × GNode)), Qa8 N t ms k (((m : Int), x) :: q) out sums =
        Qa8 N t ms k q (if hasT ms m then out.set m (Ql4 ms V m) else out)
          (if x.Parent ≥ 0 then sums.set x.Parent.toNat ⟨w64 ((sums.getD x.Parent.toNat ⟨0, 0⟩).Lo + (estT ms V m).Lo), w64 ((sums.getD x.Parent.toNat ⟨0, 0⟩).Hi + (estT ms V m).Hi)⟩ else sums) := by
      intro q
      rw [Qa8]
      dsimp only
      simp only [Qcv, chk, Qia m0 (show m < ms.Use.length by omega), Qia m0 (show m < ms.Flow.length by omega), Qia false (show m < ms.Has.length by omega), Option.bind_some, Int.toNat_natCast, hmt', show decide (0 ≤ (m : Int)) = true from by simp, Bool.and_self, cond_true, hsm, Qmt mu]
      have u1 : thr (ms.Use.getD m m0) = useT ms m := rfl
      rw [u1, eLo, eHi]
      have hfin : ∀ (O : List GRange) (a b : Int), (bif decide (x.Parent ≥ 0) then
           bif decide (0 ≤ x.Parent) && decide (x.Parent.toNat < t.length) then
             (sums[x.Parent.toNat]?).bind fun x56 =>
             bif decide (0 ≤ x.Parent) && decide (x.Parent.toNat < t.length) then
             (sums[x.Parent.toNat]?).bind fun x59 =>
             bif decide (0 ≤ x.Parent) && decide (x.Parent.toNat < t.length) then
             (sums[x.Parent.toNat]?).bind fun _ =>
             Qa8 N t ms k q O (sums.set x.Parent.toNat (⟨w64 (x56.Lo + a), w64 (x59.Hi + b)⟩ : GRange)) else none else none else none
          else Qa8 N t ms k q O sums) =
          Qa8 N t ms k q O (if x.Parent ≥ 0 then sums.set x.Parent.toNat ⟨w64 ((sums.getD x.Parent.toNat ⟨0, 0⟩).Lo + a), w64 ((sums.getD x.Parent.toNat ⟨0, 0⟩).Hi + b)⟩ else sums) := fun O a b => by
        by_cases hp : x.Parent ≥ 0
        · have hlt : x.Parent.toNat < t.length := by
            rcases Nat.eq_zero_or_pos m with e | hp'
            · have := (hn.top e).1; omega
            · have := (hn.par hp').2; omega
          have hg : sums[x.Parent.toNat]? = some (sums[x.Parent.toNat]'(by omega)) := List.getElem?_eq_getElem _
          rw [if_pos hp, List.getD_eq_getElem?_getD, hg, Option.getD_some]
          simp only [hp, hlt, decide_true, Bool.and_self, cond_true, Option.bind_some]
        · rw [if_neg hp]
          simp only [hp, decide_false, cond_false]
      have hhas : ms.Has.getD m false = hasT ms m := rfl
      have hW' : V m = ⟨lw (w64 ((useT ms m).Lo + loT t ms W m (t.length - (m + 1)) (m + 1))) x, lw (w64 ((useT ms m).Hi + hiT t ms W m (t.length - (m + 1)) (m + 1))) x⟩ := hlast
      rw [hhas]
      generalize w64 ((useT ms m).Lo + loT t ms W m (t.length - (m + 1)) (m + 1)) = A at hW' ⊢
      generalize w64 ((useT ms m).Hi + hiT t ms W m (t.length - (m + 1)) (m + 1)) = B at hW' ⊢
      by_cases hA : A > 0 <;> by_cases hB : B > 0 <;> simp only [hA, hB, decide_true, decide_false, cond_true, cond_false, lw, if_true, if_false] at hW' ⊢
      all_goals
        cases hh : hasT ms m with
        | true =>
          have u2 : thr (ms.Flow.getD m m0) = Qk0 ms m := rfl
          have ho' : out[m]? = some ⟨0, 0⟩ := hz m (Nat.lt_succ_self m)
          simp only [cond_true, Qmt (mf hh), Option.bind_some, u2, ho']
          refine (hfin _ _ _).trans ?_
          simp only [if_true, Ql4, estT, hh, hW']
        | false =>
          simp only [cond_false]
          refine (hfin _ _ _).trans ?_
          simp only [Bool.false_eq_true, if_false, estT, hh, hW']
    rw [Qq3, hx]
    dsimp only
    rw [hround]
    refine Qn4 N ht ⟨l1, l2, l3⟩ hm k m V _ _ (by omega) ?_ ?_ hVW ?_ ?_ ?_
    · split <;> simp [ho]
    · split <;> simp [hsl]
    · intro i hi hit
      rcases Nat.lt_or_ge m i with hlt | hge
      · have hmm : Ql4 ms W i = Ql4 ms V i := by unfold Ql4; rw [hWm i hlt]
        rw [← hmm, ← hout i hlt hit]
        split
        · rw [List.getElem?_set_ne (by omega)]
        · rfl
      · have : i = m := by omega
        subst this
        cases hh : hasT ms i with
        | true =>
          simp only [if_true]
          rw [List.getElem?_set_self (by omega)]
        | false =>
          simp only [Bool.false_eq_true, if_false]
          rw [hz i (Nat.lt_succ_self i)]
          simp [Ql4, hh]
    · intro i hi
      rw [← hz i (by omega)]
      split
      · rw [List.getElem?_set_ne (by omega)]
      · rfl
    · intro j hj
      have hsj := hsum j (by omega)
      have q1 := Qqp (t := t) (ms := ms) (W := W) (V := V) j (t.length - (m + 1)) (m + 1) (fun k hk => hWm k (by omega))
      have q2 := Qqr (t := t) (ms := ms) (W := W) (V := V) j (t.length - (m + 1)) (m + 1) (fun k hk => hWm k (by omega))
      have s1 : loT t ms V j (t.length - m) m = (if x.Parent = (j : Int) then (estT ms V m).Lo else 0) + loT t ms V j (t.length - (m + 1)) (m + 1) := by
        unfold loT
        rw [show t.length - m = (t.length - (m + 1)) + 1 by omega, chF, hx]
      have s2 : hiT t ms V j (t.length - m) m = (if x.Parent = (j : Int) then (estT ms V m).Hi else 0) + hiT t ms V j (t.length - (m + 1)) (m + 1) := by
        unfold hiT
        rw [show t.length - m = (t.length - (m + 1)) + 1 by omega, chF, hx]
      rw [s1, s2]
      rw [q1, q2] at hsj
      by_cases hpj : x.Parent = (j : Int)
      · rw [if_pos hpj, if_pos hpj, if_pos (by omega), show x.Parent.toNat = j by omega, List.getElem?_set_self (by omega), List.getD_eq_getElem?_getD, hsj, Option.getD_some]
        dsimp only
        rw [Qhp, Qhp, Int.add_comm (loT t ms V j _ _), Int.add_comm (hiT t ms V j _ _)]
      · rw [if_neg hpj, if_neg hpj, Int.zero_add, Int.zero_add, ← hsj]
        split
        · rw [List.getElem?_set_ne (by omega)]
        · rfl
end Go.Proofs.Ytgdepcgbjjgnfaa
