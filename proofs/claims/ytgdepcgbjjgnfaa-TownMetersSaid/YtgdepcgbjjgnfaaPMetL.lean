/-
  Plain: the range of any meter, and what is missing in any town, are as the document says. No conditions.
-/
import Derived.Test.YtgdepcgbjjgnfaaPMiss
namespace Go.Proofs.Ytgdepcgbjjgnfaa
open Go.RowKit

def lenB (t : List GNode) (ms : GMeters) : Bool := decide (ms.Use.length = t.length) && decide (ms.Flow.length = t.length) && decide (ms.Has.length = t.length)
theorem lenB_iff {t : List GNode} {ms : GMeters} (h : lenB t ms = true) : SameLen t ms := by
  simp only [lenB, Bool.and_eq_true, decide_eq_true_eq] at h
  exact ⟨h.1.1, h.1.2, h.2⟩
theorem rightM_eq {N : Nat} {t : List GNode} {ms : GMeters} (hN : 2000 ≤ N) (hl : t.length ≤ 1000) : Qdz N t ms = some (lenB t ms && metB ms t.length 0) := by
  unfold Qdz
  simp only [Qca, bne, natBeq]
  cases hs : lenB t ms with
  | false =>
    unfold lenB at hs
    cases h1 : decide (ms.Use.length = t.length) <;> cases h2 : decide (ms.Flow.length = t.length) <;> cases h3 : decide (ms.Has.length = t.length) <;> simp_all
  | true =>
    have hs' := lenB_iff hs
    have := metR_loop N hs' (fun _ => some true) hl N t.length 0 (by omega) (by omega)
    rw [show ((0 : Nat) : Int) = 0 from rfl] at this
    simp only [hs'.use, hs'.flow, hs'.has, decide_true, Bool.not_true, cond_false, this, Bool.true_and]
    cases metB ms t.length 0 <;> rfl
theorem miss_bad {N : Nat} {t : List GNode} {ms : GMeters} (hN : 2000 ≤ N) (ht : Qh7 t = true) (h : (lenB t ms && metB ms t.length 0) = false) : Qdv N t ms = some ([], 2) := by
  have h2 := Qin ht
  unfold Qdv
  simp only [Qca, bne, natBeq, validP_eq (show t.length ≤ 1000 by omega) hN, ht, Option.bind_some, Bool.not_true, cond_false]
  cases hs : lenB t ms with
  | false =>
    unfold lenB at hs
    cases h1 : decide (ms.Use.length = t.length) <;> cases h2 : decide (ms.Flow.length = t.length) <;> cases h3 : decide (ms.Has.length = t.length) <;> simp_all
  | true =>
    have hs' := lenB_iff hs
    rw [hs, Bool.true_and] at h
    have := fun k => metP_loop N hs' k (show t.length ≤ 1000 by omega) N t.length 0 (by omega) (by omega)
    rw [show ((0 : Nat) : Int) = 0 from rfl] at this
    simp only [hs'.use, hs'.flow, hs'.has, decide_true, Bool.not_true, cond_false, this, h]
theorem miss_good {N : Nat} {t : List GNode} {ms : GMeters} (hN : 2000 ≤ N) (ht : Qh7 t = true) (hs : SameLen t ms) (hm : metB ms t.length 0 = true) :
    ∃ W out, (∀ i x, t[i]? = some x → W i = wT t ms W i x) ∧ out.length = t.length ∧ (∀ i, i < t.length → out[i]? = some (missT ms W i)) ∧ Qdv N t ms = some (out, 0) := by
  have h2 := Qin ht
  obtain ⟨W, out, h3, h4, h5, h6⟩ := miss_range N ht hs hm (fun y11 : List GRange => chk (decide ((t.length : Int).toNat ≤ y11.length)) (some (y11.take ((t.length : Int).toNat), 0))) t.length (fun _ => ⟨0, 0⟩) (List.replicate t.length ⟨0, 0⟩) (List.replicate t.length ⟨0, 0⟩) (Nat.le_refl _) (by simp) (by simp)
    (fun i x hi hx => absurd (List.getElem?_eq_some_iff.1 hx).1 (by omega)) (fun i hi h => by omega) (fun i hi => by simp [hi])
    (fun j hj => by rw [Nat.sub_self]; simp only [loT, hiT, chF, List.getElem?_replicate, hj, if_true]; rfl)
  refine ⟨W, out, h3, h4, h5, ?_⟩
  unfold Qdv
  have hlp := fun k => metP_loop N hs k (show t.length ≤ 1000 by omega) N t.length 0 (by omega) (by omega)
  rw [show ((0 : Nat) : Int) = 0 from rfl] at hlp
  have hb1 : Qa8 N t = some () := by
    unfold Qa8
    rfl
  simp only [Qca, bne, natBeq, validP_eq (show t.length ≤ 1000 by omega) hN, ht, Option.bind_some, Bool.not_true, cond_false, hs.use, hs.flow, hs.has, decide_true, hlp, hm, cond_true, hb1, back_eq (show t.length ≤ 1000 by omega) hN]
  have c1 : (decide (0 ≤ (t.length : Int)) && decide (16 * (t.length : Int) ≤ 281474976710656) && decide ((t.length : Int) ≤ 9223372036854775807)) = true := by
    simp only [Bool.and_eq_true, decide_eq_true_eq]
    omega
  rw [c1]
  simp only [chk, cond_true]
  rw [Int.toNat_natCast]
  rw [Int.toNat_natCast] at h6
  refine h6.trans ?_
  simp only [chk, ← h4, List.take_length, Nat.le_refl, decide_true, cond_true]
theorem sameM_loop (N : Nat) {t : List GNode} {ms : GMeters} {W : Nat → GRange} {out : List GRange} (k : Unit → Option Bool) (hN : 2000 ≤ N) (ht : Qh7 t = true) (hs : SameLen t ms) (hm : metB ms t.length 0 = true) (hW : ∀ i x, t[i]? = some x → W i = wT t ms W i x) (ho : ∀ i, i < t.length → out[i]? = some (missT ms W i)) : ∀ (n d i : Nat), d < n → i + d = t.length → Qb7 N t ms (out, 0) k n i = k () := by
  have h2 := Qin ht
  intro n
  induction n with
  | zero => intro d i h; omega
  | succ n ih =>
    intro d i h hd
    rw [Qb7]
    cases d with
    | zero => simp [show ¬ ((i : Int) < t.length) from by omega]
    | succ d =>
      have e1 : w64 ((i : Int) + 1) = ((i + 1 : Nat) : Int) := Qeh (by omega) (by omega)
      simp only [show decide ((i : Int) < t.length) = true from by simp; omega, cond_true, missR_eq hN ht hs hm hW (show i < t.length by omega), Qg1 (ho i (by omega)), Option.bind_some, e1, ih d (i + 1) (by omega) (by omega), bne_self_eq_false, cond_false]
theorem metersM_true (t : List GNode) (ms : GMeters) (h1 : t.length ≤ 35) (h2 : ms.Use.length ≤ 35) (h3 : ms.Flow.length ≤ 35) (h4 : ms.Has.length ≤ 35) (K : Option Bool) (hK : K = some true) :
    ((Qf4 2000 t).bind fun x6 =>
      (Qfc 2000 ms).bind fun x8 =>
      (Qdv 2000 x6 x8).bind fun x10 =>
      Qca (fun y11 =>
        bif (y11 != 0) then
         bif (x10.2 == y11) then
          bif ((x10.1.length : Int) == 0) then K
          else
           some false
         else
          some false
        else
         Qca (fun _ =>
           Qca (fun _ => K) fun k19 : Unit → Option Bool =>
           Qb7 2000 t ms x10 k19 2000 0) fun k18 : Unit → Option Bool =>
         bif (x10.2 != 0) then
          some false
         else
          bif ((x10.1.length : Int) != (t.length : Int)) then
           some false
          else
           k18 ()) fun k12 : Int → Option Bool =>
      (Qfn 2000 t).bind fun x37 =>
      bif (!x37) then
       k12 (1)
      else
       (Qdz 2000 t ms).bind fun x40 =>
       bif (!x40) then
        k12 (2)
       else
        k12 (0)) = some true := by
  have hN : 2000 ≤ 2000 := Nat.le_refl _
  subst hK
  simp only [copyT_eq (show t.length ≤ 1000 by omega) hN, copyM_eq (show ms.Use.length ≤ 1000 by omega) (show ms.Flow.length ≤ 1000 by omega) (show ms.Has.length ≤ 1000 by omega) hN, Option.bind_some, validR_eq (show t.length ≤ 1000 by omega) hN, rightM_eq hN (show t.length ≤ 1000 by omega)]
  cases ht : Qh7 t with
  | false =>
    have : Qdv 2000 t ms = some ([], 1) := by
      unfold Qdv
      simp only [validP_eq (show t.length ≤ 1000 by omega) hN, ht, Option.bind_some, Bool.not_false, cond_true]
    rw [this]
    rfl
  | true =>
    cases hb : (lenB t ms && metB ms t.length 0) with
    | false =>
      rw [miss_bad hN ht hb]
      rfl
    | true =>
      rw [Bool.and_eq_true] at hb
      have hs := lenB_iff hb.1
      obtain ⟨W, out, h5, h6, h7, h8⟩ := miss_good hN ht hs hb.2
      rw [h8]
      have key := sameM_loop 2000 (fun _ => some true) hN ht hs hb.2 h5 h7 2000 t.length 0 (by omega) (by omega)
      rw [show ((0 : Nat) : Int) = 0 from rfl] at key
      simp only [Option.bind_some, Qca, Bool.not_true, cond_false, bne_self_eq_false, h6, key]
theorem metersT_true (t : List GNode) (ms : GMeters) (m : GMeter) (_ : gd_LGNode t) (_ : gd_GMeters ms) (_ : gd_GMeter m) : Qfd 2000 t ms m = some true := by
  unfold Qfd
  rw [wakes_at, few_eq]
  simp only [Option.bind_some]
  by_cases hf : (t.length : Int) ≤ 35
  · by_cases h1 : (ms.Use.length : Int) > 35
    · simp [Qca, hf, h1]
    · by_cases h2 : (ms.Flow.length : Int) > 35
      · simp [Qca, hf, h1, h2]
      · by_cases h3 : (ms.Has.length : Int) > 35
        · simp [Qca, hf, h1, h2, h3]
        · have key := metersM_true t ms (by omega) (by omega) (by omega) (by omega) (some true) rfl
          simp only [hf, h1, h2, h3, decide_true, decide_false, List.length_nil, show decide (((0 : Nat) : Int) ≤ 35) = true from rfl, Bool.and_self, Bool.not_true, cond_false]
          rw [Qca, ThroughX_eq, rightR_eq]
          simp only [Option.bind_some]
          cases hm : Qfo m with
          | false =>
            simp only [Bool.not_false, cond_true, Bool.false_eq_true, if_false]
            rw [Qca]
            exact key
          | true =>
            simp only [Bool.not_true, cond_false, if_true, Qg6 hm, Option.bind_some, bne_self_eq_false]
            rw [Qca]
            exact key
  · simp [Qca, hf]
end Go.Proofs.Ytgdepcgbjjgnfaa
