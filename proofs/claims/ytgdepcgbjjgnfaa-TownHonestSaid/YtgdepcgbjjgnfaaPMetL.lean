/-
  Plain: the range of any meter, and what is missing in any town, are as the document says. No conditions.
-/
import Derived.Test.YtgdepcgbjjgnfaaPMiss
namespace Go.Proofs.Ytgdepcgbjjgnfaa
open Go.RowKit
theorem Qwb {N : Nat} {t : List GNode} {ms : GMeters} (hN : 2000 ≤ N) (ht : Qg6 t = true) (hs : SameLen t ms) (hm : metB ms t.length 0 = true) :
  ∃ W out, (∀ i x, t[i]? = some x → W i = wT t ms W i x) ∧ out.length = t.length ∧ (∀ i, i < t.length → out[i]? = some (Ql4 ms W i)) ∧ Qen N t ms = some (out, 0) := by
 have h2 := Qij ht
 obtain ⟨W, out, h3, h4, h5, h6⟩ := Qn4 N ht hs hm (fun y11 : List GRange => chk (decide ((t.length : Int).toNat ≤ y11.length)) (some (y11.take ((t.length : Int).toNat), 0))) t.length (fun _ => ⟨0, 0⟩) (List.replicate t.length ⟨0, 0⟩) (List.replicate t.length ⟨0, 0⟩) (Nat.le_refl _) (by simp) (by simp)
  (fun i x hi hx => absurd (List.getElem?_eq_some_iff.1 hx).1 (by omega)) (fun i hi h => by omega) (fun i hi => by simp [hi])
  (fun j hj => by rw [Nat.sub_self]; simp only [loT, hiT, chF, List.getElem?_replicate, hj, if_true]; rfl)
 refine ⟨W, out, h3, h4, h5, ?_⟩
 unfold Qen
 have hlp := fun k => Qwc N hs k (show t.length ≤ 1000 by omega) N t.length 0 (by omega) (by omega)
 rw [show ((0 : Nat) : Int) = 0 from rfl] at hlp
 have hb1 : Qa4 N t = some () := by
  unfold Qa4
  rfl
 simp only [Qcv, bne, Qth, Qvs (show t.length ≤ 1000 by omega) hN, ht, Option.bind_some, Bool.not_true, cond_false, hs.use, hs.flow, hs.has, decide_true, hlp, hm, cond_true, hb1, back_eq (show t.length ≤ 1000 by omega) hN]
 have c1 : (decide (0 ≤ (t.length : Int)) && decide (16 * (t.length : Int) ≤ 281474976710656) && decide ((t.length : Int) ≤ 9223372036854775807)) = true := by
  simp only [Bool.and_eq_true, decide_eq_true_eq]
  omega
 rw [c1]
 simp only [chk, cond_true]
 rw [Int.toNat_natCast]
 rw [Int.toNat_natCast] at h6
 refine h6.trans ?_
 simp only [chk, ← h4, List.take_length, Nat.le_refl, decide_true, cond_true]
end Go.Proofs.Ytgdepcgbjjgnfaa
