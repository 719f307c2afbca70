/-
  The law PlantProves as a plain law. No conditions.
-/
import Derived.Test.YtlhakkkjgdbdpaaX17
import Derived.Test.YtlhakkkjgdbdpaaPShl
namespace Go.Proofs.Ytlhakkkjgdbdpaa
open Go.RowKit
theorem Qvm {N : Nat} {l : List Int} (h : l.length * 8 ≤ 140737488351232) : Qg8 N l = some l := by
 unfold Qg8
 simp only [chk, show decide ((0 + l.length) * 8 ≤ 140737488355328) = true from decide_eq_true (by omega), cond_true]
theorem proves_law (h : List Int) (us : List GUnit) (l : List Int) (w : Int) (p : List Int) (own : Bool) (at_ : Int) (by_ : Int) (gh : Qtp h) (gu : Qvo us) (_ : Qtp l) (_ : Qps w) (_ : Qtp p) (_ : gd_bool own) (_ : Qps at_) (_ : Qps by_) :
  Qgz (h.length + us.length + 3000) h us l w p own at_ by_ = some true := by
 have hl := gh.1
 have hu := gu.1
 rw [maxLen_eq] at hl hu
 generalize hN : h.length + us.length + 3000 = N
 unfold Qgz
 simp only [awake_at, Option.bind_some]
 refine Qph (P := fun _ => fewB h us = true ∧ l.length ≤ 15 ∧ p.length ≤ 10) (fun _ hx => ?_) (fun k1 h1 => ?_)
 ·obtain ⟨hfew, q1, q2⟩ := hx
  obtain ⟨f1, f2, f3⟩ := few_out hfew
  have cu := unitsC_eq (N := N) (t := us) (by omega) (fun u hu => by have := f1 u hu; omega) (by omega)
  have ch := Qth (N := N) (l := h) (by omega)
  have rh := rheads_eq (N := N) (h := h) (us := us) (by omega) (by omega) (fun u hu => by have := f1 u hu; omega) (by omega)
  refine Qph (P := fun x => x.1.length ≤ 15 ∧ x.2.2.length ≤ 10) (fun x hx => ?_) (fun k5 h5 => ?_)
  ·obtain ⟨m, v, r⟩ := x
   obtain ⟨x1, x2⟩ := hx
   dsimp only at x1 x2 ⊢
   have cm := Qth (N := N) (l := m) (by omega)
   have cr := Qth (N := N) (l := r) (by omega)
   have pv := provesX_eq (N := N) (h := h) (us := us) (ms := m) (w := v) (p := r) (by omega)
   simp only [rh, cu, ch, cm, cr, pv, Option.bind_some]
   unfold Qxc
   cases hv : Qjd h us with
   | false => rfl
   | true =>
    have hk := shOK hv
    simp only [cond_true, Qjt, shareR_eq hk (by omega : 300 ≤ N), Option.bind_some]
    cases hs : Qn3 h us m with
    | false => cases Qkh h r <;> rfl
    | true =>
     rw [rprice_eq (by omega) (by omega)]
     simp only [cond_true, Option.bind_some]
     cases hp : Qkh h r with
     | false => rfl
     | true =>
      obtain ⟨p1, p2⟩ := Qqu hp
      have hs' := hs
      unfold Qn3 at hs'
      simp only [Bool.and_eq_true, decide_eq_true_eq] at hs'
      have hmb := Qml hk.ub hs'.1.1 hs'.1.2
      rw [workR_eq (by omega) hk.u1 hs'.1.1 hk.ub (fun x hx => by have := hmb x hx; omega)]
      simp only [cond_true, Option.bind_some]
      cases hw : (Qlo us m == v) with
      | false => rfl
      | true =>
       rw [boundR_eq hk p1 p2 (by omega)]
       simp only [cond_true, Option.bind_some]
       cases (Qra h us r == v) <;> rfl
  ·cases own with
   | false => exact h5 (l, w, p) ⟨q1, q2⟩
   | true =>
    simp only [cond_true, ch, cu, Option.bind_some]
    cases hv : Qjd h us with
    | false =>
     rw [shareN_eq hv (by omega)]
     exact h5 (l, w, p) ⟨q1, q2⟩
    | true =>
     have hk := shOK hv
     have hul := hk.u1
     have hhl := hk.h1
     obtain ⟨D, pr, hd, e, e2, _⟩ := share_eq (N := N) hv (by omega)
     obtain ⟨e3, _⟩ := Qqu e2
     have e4 : (Qlt h us D).length = us.length := Qkz _ _
     rw [e]
     generalize Qlt h us D = M at e4 ⊢
     generalize Qlo us M = W
     have cM := Qvm (N := N) (l := M) (by omega)
     have cP := Qvm (N := N) (l := pr) (by omega)
     simp only [Option.bind_some, show ((0 : Int) == 0) = true from rfl, cond_true, cM, cP, in_eq]
     cases btw by_ (-1000000) 1000000 with
     | false => exact h5 (M, W, pr) ⟨by dsimp only; omega, by dsimp only; omega⟩
     | true =>
      simp only [cond_true]
      refine Qph (P := fun x => x.2.1 = M ∧ x.2.2 = pr ∧ (x.1 = true → 0 ≤ at_ ∧ at_ < M.length)) (fun x hx => ?_) (fun k6 h6 => ?_)
      ·obtain ⟨b, M', pr'⟩ := x
       obtain ⟨eM, eP, hb⟩ := hx
       dsimp only at eM eP hb ⊢
       subst eM eP
       cases b with
       | true =>
        obtain ⟨b1, b2⟩ := hb rfl
        obtain ⟨x, hx⟩ : ∃ x, M'[at_.toNat]? = some x := ⟨_, List.getElem?_eq_getElem (by omega)⟩
        have hne : M'.isEmpty = false := by
         rw [List.isEmpty_eq_false_iff]; intro e; rw [e] at b2; simp at b2; omega
        simp only [cond_true, chk, hne, Bool.not_false, decide_eq_true b1, decide_eq_true (show at_.toNat < M'.length from by omega), Bool.and_self, hx, Option.bind_some, List.length_set, Nat.le_refl, decide_true]
        exact h5 _ ⟨by dsimp only; simp; omega, by dsimp only; omega⟩
       | false =>
        simp only [cond_false]
        by_cases c1 : w64 (at_ - 20) ≥ 0
        ·rw [decide_eq_true c1, cond_true]
         by_cases c2 : w64 (at_ - 20) < ((pr'.length : Nat) : Int)
         ·rw [decide_eq_true c2, cond_true]
          obtain ⟨x, hx⟩ : ∃ x, pr'[(w64 (at_ - 20)).toNat]? = some x := ⟨_, List.getElem?_eq_getElem (by omega)⟩
          have hne : pr'.isEmpty = false := by
           rw [List.isEmpty_eq_false_iff]; intro e; rw [e] at c2; simp at c2; omega
          simp only [cond_true, chk, hne, Bool.not_false, decide_eq_true (show 0 ≤ w64 (at_ - 20) from c1), decide_eq_true (show (w64 (at_ - 20)).toNat < pr'.length from by omega), Bool.and_self, hx, Option.bind_some, List.length_set, Nat.le_refl, decide_true]
          exact h5 _ ⟨by dsimp only; omega, by dsimp only; simp; omega⟩
         ·rw [decide_eq_false c2, cond_false]
          cases (at_ == 40) <;> exact h5 _ ⟨by dsimp only; omega, by dsimp only; omega⟩
        ·rw [decide_eq_false c1, cond_false]
         cases (at_ == 40) <;> exact h5 _ ⟨by dsimp only; omega, by dsimp only; omega⟩
      ·by_cases c : at_ ≥ 0
       ·rw [decide_eq_true c, cond_true]
        exact h6 _ ⟨rfl, rfl, fun hx => ⟨c, of_decide_eq_true hx⟩⟩
       ·rw [decide_eq_false c, cond_false]
        exact h6 _ ⟨rfl, rfl, fun hx => by cases hx⟩
 ·rw [few_eq (by omega) (by omega)]
  simp only [Option.bind_some]
  cases hfew : fewB h us with
  | false => rfl
  | true =>
   simp only [Bool.not_true, cond_false]
   by_cases hl15 : l.length ≤ 15
   ·rw [show decide ((l.length : Int) > 15) = false from decide_eq_false (by omega), cond_false]
    by_cases hp10 : p.length ≤ 10
    ·rw [show decide ((p.length : Int) > 10) = false from decide_eq_false (by omega), cond_false]
     exact h1 () ⟨hfew, hl15, hp10⟩
    ·rw [show decide ((p.length : Int) > 10) = true from decide_eq_true (by omega)]
     rfl
   ·rw [show decide ((l.length : Int) > 15) = true from decide_eq_true (by omega)]
    rfl
end Go.Proofs.Ytlhakkkjgdbdpaa
