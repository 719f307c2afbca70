/-
  TopCurves, as given: for every input the law returns true, and its arguments read as before. No conditions.
-/
import Derived.Test.YtmocejncmhbfaaaG3
namespace Go.Proofs.Ytmocejncmhbfaaa
open Go.ChangeShapes Go.WideShapes Go.ChangeAt Go.RowKit Go.Deep Go.Joins

set_option maxRecDepth 100000 in
theorem topCurves_lifted (os : Os) (started : os.Started) (H : Type) (enc : TypeId × Value → H) :
    ReturnsInHanded {} Try.checked os 3 .any (Rows.topCurvesSpec.pre6 enc Try.prog Try.f3 Rows.topCurvesRow.domain false) (Rows.topCurvesSpec.post enc Try.prog Try.f3 false true false false) := by
  refine returnsInHanded_of_change_sized (C := Try.checked) Try.own started (by kernel_rfl) Try.func3
    (ChangeSpec.witness6 (enc := enc) (C := Try.checked) false ⟨#[], #[.slice none 0 0, .slice none 0 0, .int .u16 0, .int .u16 0, .int .u8 0], []⟩ 8 (by kernel_rfl) (by kernel_rfl) (by kernel_rfl) (by kernel_rfl)) ?_
  intro W base args ds gs before hval0 hW _ hsz _
  have hval : ∀ (j : Nat) t v, Try.f3.params[j]? = some t → args[j]? = some v → Value.okWide Try.prog W .any base t v := hval0
  have hW' := hW
  obtain ⟨p, q, hA0, hV, rfl, hfz, hnd⟩ := hW
  have hA : DataW.TrodAll enc Try.prog W 0 (fun _ => true) true Try.f3.params.toList args.toList ds p := hA0
  rw [Try.params3] at hA hval
  obtain ⟨v0, vs0, d0, ds0, p0, q0, hargs, rfl, rfl, h0, r0⟩ := trodAll_cons hA
  obtain ⟨v1, vs1, d1, ds1, p1, q1, rfl, rfl, rfl, h1, r1⟩ := trodAll_cons r0
  obtain ⟨v2, vs2, d2, ds2, p2, q2, rfl, rfl, rfl, h2, r2⟩ := trodAll_cons r1
  obtain ⟨v3, vs3, d3, ds3, p3, q3, rfl, rfl, rfl, h3, r3⟩ := trodAll_cons r2
  obtain ⟨v4, vs4, d4, ds4, p4, q4, rfl, rfl, rfl, h4, r4⟩ := trodAll_cons r3
  obtain ⟨rfl, rfl, rfl⟩ := trodAll_nil r4
  obtain rfl : args = #[v0, v1, v2, v3, v4] := by simpa using congrArg List.toArray hargs
  obtain ⟨rfl, rfl⟩ := trodVars_none hV
  obtain ⟨x0, g0, e0⟩ := Qlt Try.underlying22 Qyx (fun l => .dat 3 (l.map Qap)) (fun _ => rfl) (hval 0 _ v0 rfl rfl) h0 (Qlh hsz 0 rfl rfl)
  obtain ⟨x1, g1, e1⟩ := Qlt Try.underlying23 Qyw (fun l => .dat 3 (l.map Qbc)) (fun _ => rfl) (hval 1 _ v1 rfl rfl) h1 (Qlh hsz 1 rfl rfl)
  obtain ⟨x2, g2, e2⟩ := Qne Try.underlying24 (by kernel_rfl) (hval 2 _ v2 rfl rfl) h2 (Qlh hsz 2 rfl rfl)
  obtain ⟨x3, g3, e3⟩ := Qne Try.underlying24 (by kernel_rfl) (hval 3 _ v3 rfl rfl) h3 (Qlh hsz 3 rfl rfl)
  obtain ⟨x4, g4, e4⟩ := Qne Try.underlying5 (by kernel_rfl) (hval 4 _ v4 rfl rfl) h4 (Qlh hsz 4 rfl rfl)
  clear hA0 hval0
  refine (Qro (w := W) (vals := #[v0, v1, v2, v3, v4]) (Qhs 2000 x0 x1 x2 x3 x4 true (Qo9 x0 x1 x2 x3 x4 g0 g1 g2 g3 g4)) ⟨e0, e1, e2, e3, e4, trivial⟩).mono fun e W' ⟨he, hb⟩ => ?_
  subst he
  exact ⟨_, rfl, Qtl 4 hW' Try.laidOut (by kernel_rfl) rfl Try.underlying4 rfl rfl rfl rfl hb⟩

theorem topCurves_holds : Rows.TopCurvesSaid :=
  OpenClaim.holds_of_wide 3 Try.f3 rfl rfl rfl rfl rfl rfl rfl ⟨rfl, rfl, rfl, rfl, rfl⟩ rfl rfl rfl rfl rfl (by kernel_rfl) Try.func3 (by kernel_rfl)
    (of_decide_eq_true (by kernel_rfl)) (by unfold Func.isWrapper; first | (rw [if_pos (by decide +kernel)]; kernel_rfl) | (rw [if_neg (by decide +kernel)]; exact ⟨rfl, rfl⟩))
    (fun os started H enc _ => topCurves_lifted os started H enc)
end Go.Proofs.Ytmocejncmhbfaaa
