/-
  Plain: what is missing in a town, by the program and by the document. No conditions.
-/
import Derived.Test.YtgdepcgbjjgnfaaPMet
namespace Go.Proofs.Ytgdepcgbjjgnfaa
open Go.RowKit

def estT (ms : GMeters) (W : Nat → GRange) (k : Nat) : GRange := if hasT ms k then flowT ms k else W k
def lw (o : Int) (x : GNode) : Int := if o > 0 then w64 (o + x.Loss) else o
def chF (t : List GNode) (f : Nat → Int) (j : Nat) : Nat → Nat → Int
  | 0, _ => 0
  | d + 1, a => (match t[a]? with | some x => if x.Parent = (j : Int) then f a else 0 | none => 0) + chF t f j d (a + 1)
theorem chF_congr {t : List GNode} {f g : Nat → Int} (j : Nat) : ∀ (d a : Nat), (∀ k, a ≤ k → f k = g k) → chF t f j d a = chF t g j d a
  | 0, _, _ => rfl
  | d + 1, a, h => by rw [chF, chF, chF_congr j d (a + 1) (fun k hk => h k (by omega)), h a (Nat.le_refl a)]
def loT (t : List GNode) (ms : GMeters) (W : Nat → GRange) (j d a : Nat) : Int := chF t (fun k => (estT ms W k).Lo) j d a
def hiT (t : List GNode) (ms : GMeters) (W : Nat → GRange) (j d a : Nat) : Int := chF t (fun k => (estT ms W k).Hi) j d a
theorem loT_congr {t : List GNode} {ms : GMeters} {W V : Nat → GRange} (j d a : Nat) (h : ∀ k, a ≤ k → W k = V k) : loT t ms W j d a = loT t ms V j d a :=
  chF_congr j d a fun k hk => by unfold estT; rw [h k hk]
theorem hiT_congr {t : List GNode} {ms : GMeters} {W V : Nat → GRange} (j d a : Nat) (h : ∀ k, a ≤ k → W k = V k) : hiT t ms W j d a = hiT t ms V j d a :=
  chF_congr j d a fun k hk => by unfold estT; rw [h k hk]
def wT (t : List GNode) (ms : GMeters) (W : Nat → GRange) (i : Nat) (x : GNode) : GRange :=
  ⟨lw (w64 ((useT ms i).Lo + loT t ms W i (t.length - (i + 1)) (i + 1))) x, lw (w64 ((useT ms i).Hi + hiT t ms W i (t.length - (i + 1)) (i + 1))) x⟩
theorem wT_congr {t : List GNode} {ms : GMeters} {W V : Nat → GRange} (i : Nat) (x : GNode) (h : ∀ k, i < k → W k = V k) : wT t ms W i x = wT t ms V i x := by
  unfold wT
  rw [loT_congr i _ _ (fun k hk => h k (by omega)), hiT_congr i _ _ (fun k hk => h k (by omega))]
def missT (ms : GMeters) (W : Nat → GRange) (i : Nat) : GRange := if hasT ms i then ⟨w64 ((flowT ms i).Lo - (W i).Hi), w64 ((flowT ms i).Hi - (W i).Lo)⟩ else ⟨0, 0⟩
/-- The pass from the last node up. -/
theorem miss_range (N : Nat) {t : List GNode} {ms : GMeters} (ht : Qh7 t = true) (hs : SameLen t ms) (hm : metB ms t.length 0 = true) (k : List GRange → Option (List GRange × Int)) : ∀ (m : Nat) (W : Nat → GRange) (out sums : List GRange), m ≤ t.length → out.length = t.length → sums.length = t.length →
    (∀ i x, m ≤ i → t[i]? = some x → W i = wT t ms W i x) → (∀ i, m ≤ i → i < t.length → out[i]? = some (missT ms W i)) → (∀ i, i < m → out[i]? = some ⟨0, 0⟩) →
    (∀ j, j < m → sums[j]? = some ⟨w64 (loT t ms W j (t.length - m) m), w64 (hiT t ms W j (t.length - m) m)⟩) →
    ∃ W' out', (∀ i x, t[i]? = some x → W' i = wT t ms W' i x) ∧ out'.length = t.length ∧ (∀ i, i < t.length → out'[i]? = some (missT ms W' i)) ∧ Qbb N t ms k (backL t m) out sums = k out'
  | 0, W, out, sums, _, ho, _, hW, hout, _, _ => ⟨W, out, fun i x hx => hW i x (Nat.zero_le i) hx, ho, fun i hi => hout i (Nat.zero_le i) hi, by rw [backL, Qbb]⟩
  | m + 1, W, out, sums, hmt, ho, hsl, hW, hout, hz, hsum => by
    obtain ⟨l1, l2, l3⟩ := hs
    have hx : t[m]? = some (t[m]'(by omega)) := List.getElem?_eq_getElem _
    generalize t[m]'(by omega) = x at hx
    have hn := node_at ht hx
    have hsm := hsum m (Nat.lt_succ_self m)
    obtain ⟨mu, mf⟩ := metB_at hm m (Nat.zero_le m) (by omega)
    have hWm : ∀ k, m < k → W k = (fun i => if i = m then wT t ms W m x else W i) k := fun k hk => by simp [show k ≠ m by omega]
    have hlast : (fun i => if i = m then wT t ms W m x else W i) m = wT t ms W m x := by simp
    generalize hV : (fun i => if i = m then wT t ms W m x else W i) = V at hWm hlast
    have hVW : ∀ i x, m ≤ i → t[i]? = some x → V i = wT t ms V i x := fun i y hi hy => by
      rcases Nat.lt_or_ge m i with hlt | hge
      · rw [← hWm i hlt, hW i y hlt hy]
        exact wT_congr i y fun k hk => hWm k (by omega)
      · have : i = m := by omega
        subst this
        rw [hx] at hy
        cases hy
        rw [hlast]
        exact wT_congr i x fun k hk => hWm k hk
    have eLo : w64 (w64 (loT t ms W m (t.length - (m + 1)) (m + 1)) + (useT ms m).Lo) = w64 ((useT ms m).Lo + loT t ms W m (t.length - (m + 1)) (m + 1)) := by rw [Qfm, Int.add_comm]
    have eHi : w64 (w64 (hiT t ms W m (t.length - (m + 1)) (m + 1)) + (useT ms m).Hi) = w64 ((useT ms m).Hi + hiT t ms W m (t.length - (m + 1)) (m + 1)) := by rw [Qfm, Int.add_comm]
    have hmt' : decide (m < t.length) = true := by simp; omega
    -- what the round does
    have hround : ∀ (q : List (Int × GNode)), Qbb N t ms k (((m : Int), x) :: q) out sums =
        Qbb N t ms k q (if hasT ms m then out.set m (missT ms V m) else out)
          (if x.Parent ≥ 0 then sums.set x.Parent.toNat ⟨w64 ((sums.getD x.Parent.toNat ⟨0, 0⟩).Lo + (estT ms V m).Lo), w64 ((sums.getD x.Parent.toNat ⟨0, 0⟩).Hi + (estT ms V m).Hi)⟩ else sums) := by
      intro q
      rw [Qbb]
      dsimp only
      simp only [Qca, chk, Qem m0 (show m < ms.Use.length by omega), Qem m0 (show m < ms.Flow.length by omega), Qem false (show m < ms.Has.length by omega), Option.bind_some, Int.toNat_natCast, hmt', show decide (0 ≤ (m : Int)) = true from by simp, Bool.and_self, cond_true, hsm, Qh8 mu]
      have u1 : thr (ms.Use.getD m m0) = useT ms m := rfl
      rw [u1, eLo, eHi]
      have hfin : ∀ (O : List GRange) (a b : Int), (bif decide (x.Parent ≥ 0) then
           bif decide (0 ≤ x.Parent) && decide (x.Parent.toNat < t.length) then
             (sums[x.Parent.toNat]?).bind fun x56 =>
             bif decide (0 ≤ x.Parent) && decide (x.Parent.toNat < t.length) then
             (sums[x.Parent.toNat]?).bind fun x59 =>
             bif decide (0 ≤ x.Parent) && decide (x.Parent.toNat < t.length) then
             (sums[x.Parent.toNat]?).bind fun _ =>
             Qbb N t ms k q O (sums.set x.Parent.toNat (⟨w64 (x56.Lo + a), w64 (x59.Hi + b)⟩ : GRange)) else none else none else none
          else Qbb N t ms k q O sums) =
          Qbb N t ms k q O (if x.Parent ≥ 0 then sums.set x.Parent.toNat ⟨w64 ((sums.getD x.Parent.toNat ⟨0, 0⟩).Lo + a), w64 ((sums.getD x.Parent.toNat ⟨0, 0⟩).Hi + b)⟩ else sums) := fun O a b => by
        by_cases hp : x.Parent ≥ 0
        · have hlt : x.Parent.toNat < t.length := by
            rcases Nat.eq_zero_or_pos m with e | hp'
            · have := (hn.top e).1; omega
            · have := (hn.par hp').2; omega
          have hg : sums[x.Parent.toNat]? = some (sums[x.Parent.toNat]'(by omega)) := List.getElem?_eq_getElem _
          rw [if_pos hp, List.getD_eq_getElem?_getD, hg, Option.getD_some]
          simp only [hp, hlt, decide_true, Bool.and_self, cond_true, Option.bind_some]
        · rw [if_neg hp]
          simp only [hp, decide_false, cond_false]
      have hhas : ms.Has.getD m false = hasT ms m := rfl
      have hW' : V m = ⟨lw (w64 ((useT ms m).Lo + loT t ms W m (t.length - (m + 1)) (m + 1))) x, lw (w64 ((useT ms m).Hi + hiT t ms W m (t.length - (m + 1)) (m + 1))) x⟩ := hlast
      rw [hhas]
      generalize w64 ((useT ms m).Lo + loT t ms W m (t.length - (m + 1)) (m + 1)) = A at hW' ⊢
      generalize w64 ((useT ms m).Hi + hiT t ms W m (t.length - (m + 1)) (m + 1)) = B at hW' ⊢
      by_cases hA : A > 0 <;> by_cases hB : B > 0 <;> simp only [hA, hB, decide_true, decide_false, cond_true, cond_false, lw, if_true, if_false] at hW' ⊢
      all_goals
        cases hh : hasT ms m with
        | true =>
          have u2 : thr (ms.Flow.getD m m0) = flowT ms m := rfl
          have ho' : out[m]? = some ⟨0, 0⟩ := hz m (Nat.lt_succ_self m)
          simp only [cond_true, Qh8 (mf hh), Option.bind_some, u2, ho']
          refine (hfin _ _ _).trans ?_
          simp only [if_true, missT, estT, hh, hW']
        | false =>
          simp only [cond_false]
          refine (hfin _ _ _).trans ?_
          simp only [Bool.false_eq_true, if_false, estT, hh, hW']
    rw [backL, hx]
    dsimp only
    rw [hround]
    refine miss_range N ht ⟨l1, l2, l3⟩ hm k m V _ _ (by omega) ?_ ?_ hVW ?_ ?_ ?_
    · split <;> simp [ho]
    · split <;> simp [hsl]
    · intro i hi hit
      rcases Nat.lt_or_ge m i with hlt | hge
      · have hmm : missT ms W i = missT ms V i := by unfold missT; rw [hWm i hlt]
        rw [← hmm, ← hout i hlt hit]
        split
        · rw [List.getElem?_set_ne (by omega)]
        · rfl
      · have : i = m := by omega
        subst this
        cases hh : hasT ms i with
        | true =>
          simp only [if_true]
          rw [List.getElem?_set_self (by omega)]
        | false =>
          simp only [Bool.false_eq_true, if_false]
          rw [hz i (Nat.lt_succ_self i)]
          simp [missT, hh]
    · intro i hi
      rw [← hz i (by omega)]
      split
      · rw [List.getElem?_set_ne (by omega)]
      · rfl
    · intro j hj
      have hsj := hsum j (by omega)
      have q1 := loT_congr (t := t) (ms := ms) (W := W) (V := V) j (t.length - (m + 1)) (m + 1) (fun k hk => hWm k (by omega))
      have q2 := hiT_congr (t := t) (ms := ms) (W := W) (V := V) j (t.length - (m + 1)) (m + 1) (fun k hk => hWm k (by omega))
      have s1 : loT t ms V j (t.length - m) m = (if x.Parent = (j : Int) then (estT ms V m).Lo else 0) + loT t ms V j (t.length - (m + 1)) (m + 1) := by
        unfold loT
        rw [show t.length - m = (t.length - (m + 1)) + 1 by omega, chF, hx]
      have s2 : hiT t ms V j (t.length - m) m = (if x.Parent = (j : Int) then (estT ms V m).Hi else 0) + hiT t ms V j (t.length - (m + 1)) (m + 1) := by
        unfold hiT
        rw [show t.length - m = (t.length - (m + 1)) + 1 by omega, chF, hx]
      rw [s1, s2]
      rw [q1, q2] at hsj
      by_cases hpj : x.Parent = (j : Int)
      · rw [if_pos hpj, if_pos hpj, if_pos (by omega), show x.Parent.toNat = j by omega, List.getElem?_set_self (by omega), List.getD_eq_getElem?_getD, hsj, Option.getD_some]
        dsimp only
        rw [Qfm, Qfm, Int.add_comm (loT t ms V j _ _), Int.add_comm (hiT t ms V j _ _)]
      · rw [if_neg hpj, if_neg hpj, Int.zero_add, Int.zero_add, ← hsj]
        split
        · rw [List.getElem?_set_ne (by omega)]
        · rfl
theorem est_eq {N : Nat} {t : List GNode} {ms : GMeters} {W : Nat → GRange} {rec_ : List GNode → GMeters → Int → Option GRange} (hs : SameLen t ms) (hm : metB ms t.length 0 = true) {j : Nat} (hj : j < t.length) (hrec : rec_ t ms j = some (W j)) : Qe5 N rec_ t ms j = some (estT ms W j) := by
  obtain ⟨l1, l2, l3⟩ := hs
  obtain ⟨mu, mf⟩ := metB_at hm j (Nat.zero_le j) (by omega)
  unfold Qe5 estT
  rw [Qem false (show j < ms.Has.length by omega), Option.bind_some]
  have hhas : ms.Has.getD j false = hasT ms j := rfl
  rw [hhas]
  cases hh : hasT ms j with
  | true =>
    rw [cond_true, Qem m0 (show j < ms.Flow.length by omega), Option.bind_some, Qg6 (mf hh)]
    rfl
  | false =>
    rw [cond_false, hrec]
    rfl
theorem without_loop (N : Nat) {t : List GNode} {ms : GMeters} {W : Nat → GRange} (rec_ : List GNode → GMeters → Int → Option GRange) (i : Nat) (k : Int × Int → Option GRange) (hl : t.length ≤ 1000) (hs : SameLen t ms) (hm : metB ms t.length 0 = true) (hrec : ∀ j, i < j → j < t.length → rec_ t ms j = some (W j)) : ∀ (n d a : Nat) (p q : Int), d < n → a + d = t.length → i < a → w64 p = p → w64 q = q →
    Qcq N t rec_ ms i k n a p q = k (w64 (p + loT t ms W i d a), w64 (q + hiT t ms W i d a)) := by
  intro n
  induction n with
  | zero => intro d a p q h; omega
  | succ n ih =>
    intro d a p q h hd ha hp hq
    rw [Qcq]
    cases d with
    | zero => simp [show ¬ ((a : Int) < t.length) from by omega, loT, hiT, chF, hp, hq]
    | succ d =>
      have hx : t[a]? = some (t[a]'(by omega)) := List.getElem?_eq_getElem _
      generalize t[a]'(by omega) = x at hx
      have e1 : w64 ((a : Int) + 1) = ((a + 1 : Nat) : Int) := Qeh (by omega) (by omega)
      have s1 : loT t ms W i (d + 1) a = (if x.Parent = (i : Int) then (estT ms W a).Lo else 0) + loT t ms W i d (a + 1) := by
        unfold loT
        rw [chF, hx]
      have s2 : hiT t ms W i (d + 1) a = (if x.Parent = (i : Int) then (estT ms W a).Hi else 0) + hiT t ms W i d (a + 1) := by
        unfold hiT
        rw [chF, hx]
      rw [s1, s2]
      simp only [show decide ((a : Int) < t.length) = true from by simp; omega, cond_true, Qg1 hx, Option.bind_some, e1, est_eq hs hm (show a < t.length by omega) (hrec a ha (by omega))]
      by_cases hpi : x.Parent = (i : Int)
      · rw [if_pos hpi, if_pos hpi, show (x.Parent == (i : Int)) = true from by simpa using hpi, cond_true, ih d (a + 1) _ _ (by omega) (by omega) (by omega) (w64_w64 _) (w64_w64 _), Qfm, Qfm, Int.add_assoc, Int.add_assoc]
      · rw [if_neg hpi, if_neg hpi, show (x.Parent == (i : Int)) = false from by simpa using hpi, cond_false, ih d (a + 1) _ _ (by omega) (by omega) (by omega) hp hq, Int.zero_add, Int.zero_add]
theorem without_eq {t : List GNode} {ms : GMeters} {W : Nat → GRange} (ht : Qh7 t = true) (hs : SameLen t ms) (hm : metB ms t.length 0 = true) (hW : ∀ i x, t[i]? = some x → W i = wT t ms W i x) : ∀ (D i N : Nat), t.length - i ≤ D → i < t.length → 100 + D ≤ N → Qdw N t ms i = some (W i)
  | 0, i, N, h, hi, _ => by omega
  | D + 1, i, N, h, hi, hN => by
    have h2 := Qin ht
    obtain ⟨M, rfl⟩ : ∃ M, N = M + 1 := ⟨N - 1, by omega⟩
    have hx : t[i]? = some (t[i]'hi) := List.getElem?_eq_getElem _
    generalize t[i]'hi = x at hx
    obtain ⟨mu, mf⟩ := metB_at hm i (Nat.zero_le i) (by omega)
    obtain ⟨⟨b1, b2⟩, b3, b4⟩ := thr_bd mu
    have u1 : thr (ms.Use.getD i m0) = useT ms i := rfl
    rw [u1] at b1 b2 b3 b4
    show Qee M (Qdw M) t ms i = _
    unfold Qee
    rw [Qem m0 (show i < ms.Use.length by rw [hs.use]; exact hi), Option.bind_some, Qg6 mu, Option.bind_some, u1]
    simp only [Qca]
    have e1 : w64 ((i : Int) + 1) = ((i + 1 : Nat) : Int) := Qeh (by omega) (by omega)
    rw [e1, without_loop M (Qdw M) i _ (by omega) hs hm (fun j hj hjt => without_eq ht hs hm hW D j M (by omega) hjt (by omega)) M (t.length - (i + 1)) (i + 1) _ _ (by omega) (by omega) (by omega) (Qeh (by omega) (by omega)) (Qeh (by omega) (by omega))]
    rw [hW i x hx]
    unfold wT lw
    dsimp only
    generalize w64 ((useT ms i).Lo + loT t ms W i (t.length - (i + 1)) (i + 1)) = p
    generalize w64 ((useT ms i).Hi + hiT t ms W i (t.length - (i + 1)) (i + 1)) = q
    by_cases hp : p > 0 <;> by_cases hq : q > 0 <;> simp [hp, hq, Qg1 hx]
theorem missR_eq {N : Nat} {t : List GNode} {ms : GMeters} {W : Nat → GRange} (hN : 2000 ≤ N) (ht : Qh7 t = true) (hs : SameLen t ms) (hm : metB ms t.length 0 = true) (hW : ∀ i x, t[i]? = some x → W i = wT t ms W i x) {i : Nat} (hi : i < t.length) : Qfh N t ms i = some (missT ms W i) := by
  have h2 := Qin ht
  obtain ⟨mu, mf⟩ := metB_at hm i (Nat.zero_le i) (by omega)
  unfold Qfh missT
  rw [Qem false (show i < ms.Has.length by rw [hs.has]; exact hi), Option.bind_some]
  have hhas : ms.Has.getD i false = hasT ms i := rfl
  rw [hhas]
  cases hh : hasT ms i with
  | false => rfl
  | true =>
    rw [Bool.not_true, cond_false, Qem m0 (show i < ms.Flow.length by rw [hs.flow]; exact hi), Option.bind_some, Qg6 (mf hh), Option.bind_some, without_eq ht hs hm hW t.length i N (by omega) hi (by omega)]
    rfl
end Go.Proofs.Ytgdepcgbjjgnfaa
