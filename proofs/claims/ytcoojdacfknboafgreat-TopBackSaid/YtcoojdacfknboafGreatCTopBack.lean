/-
  TopBack, as given: for every input the law returns true, and its arguments read as before. No conditions.
-/
import Derived.Test.YtcoojdacfknboafGreatG6
namespace Go.Proofs.YtcoojdacfknboafGreat
open Go.ChangeShapes Go.WideShapes Go.ChangeAt Go.RowKit Go.Deep Go.Joins

set_option maxRecDepth 100000 in
theorem topBack_lifted (os : Os) (started : os.Started) (H : Type) (enc : TypeId × Value → H) :
    ReturnsInHanded {} Tryz.checked os 3 .any (Rows.topBackSpec.pre6 enc Tryz.prog Tryz.f3 Rows.topBackRow.domain false) (Rows.topBackSpec.post enc Tryz.prog Tryz.f3 false true false false) := by
  refine returnsInHanded_of_change_sized (C := Tryz.checked) Tryz.own started (by kernel_rfl) Tryz.func3
    (ChangeSpec.witness6 (enc := enc) (C := Tryz.checked) false ⟨#[], #[.agg #[.slice none 0 0, .slice none 0 0], .slice none 0 0, .slice none 0 0, .agg #[.int .i64 0, .slice none 0 0], .agg #[.slice none 0 0, .slice none 0 0, .int .i64 0, .int .i64 0], .slice none 0 0], []⟩ 8 (by kernel_rfl) (by kernel_rfl) (by kernel_rfl) (by kernel_rfl)) ?_
  intro W base args ds gs before hval0 hW _ hsz _
  have hval : ∀ (j : Nat) t v, Tryz.f3.params[j]? = some t → args[j]? = some v → Value.okWide Tryz.prog W .any base t v := hval0
  have hW' := hW
  obtain ⟨p, q, hA0, hV, rfl, hfz, hnd⟩ := hW
  have hA : DataW.TrodAll enc Tryz.prog W 0 (fun _ => true) true Tryz.f3.params.toList args.toList ds p := hA0
  rw [Tryz.params3] at hA hval
  obtain ⟨v0, vs0, d0, ds0, p0, q0, hargs, rfl, rfl, h0, r0⟩ := trodAll_cons hA
  obtain ⟨v1, vs1, d1, ds1, p1, q1, rfl, rfl, rfl, h1, r1⟩ := trodAll_cons r0
  obtain ⟨v2, vs2, d2, ds2, p2, q2, rfl, rfl, rfl, h2, r2⟩ := trodAll_cons r1
  obtain ⟨v3, vs3, d3, ds3, p3, q3, rfl, rfl, rfl, h3, r3⟩ := trodAll_cons r2
  obtain ⟨v4, vs4, d4, ds4, p4, q4, rfl, rfl, rfl, h4, r4⟩ := trodAll_cons r3
  obtain ⟨v5, vs5, d5, ds5, p5, q5, rfl, rfl, rfl, h5, r5⟩ := trodAll_cons r4
  obtain ⟨rfl, rfl, rfl⟩ := trodAll_nil r5
  obtain rfl : args = #[v0, v1, v2, v3, v4, v5] := by simpa using congrArg List.toArray hargs
  obtain ⟨rfl, rfl⟩ := trodVars_none hV
  obtain ⟨x0, g0, e0⟩ := Qvg Tryz.underlying26 Zyx (hval 0 _ v0 rfl rfl) h0 (Q0p hsz 0 rfl rfl)
  obtain ⟨x1, g1, e1⟩ := Qyq Tryz.underlying27 Zl9 (fun l => .dat 1 (l.map Qab)) (fun _ => rfl) (hval 1 _ v1 rfl rfl) h1 (Q0p hsz 1 rfl rfl)
  obtain ⟨x2, g2, e2⟩ := Qyq Tryz.underlying28 Zyw (fun l => .dat 4 (l.map Qag)) (fun _ => rfl) (hval 2 _ v2 rfl rfl) h2 (Q0p hsz 2 rfl rfl)
  obtain ⟨x3, g3, e3⟩ := Qvg Tryz.underlying31 Zyu (hval 3 _ v3 rfl rfl) h3 (Q0p hsz 3 rfl rfl)
  obtain ⟨x4, g4, e4⟩ := Qvg Tryz.underlying34 Zys (hval 4 _ v4 rfl rfl) h4 (Q0p hsz 4 rfl rfl)
  obtain ⟨x5, g5, e5⟩ := Qyq Tryz.underlying27 Zl9 (fun l => .dat 1 (l.map Qab)) (fun _ => rfl) (hval 5 _ v5 rfl rfl) h5 (Q0p hsz 5 rfl rfl)
  clear hA0 hval0
  refine (Zib (w := W) (vals := #[v0, v1, v2, v3, v4, v5]) (Qx2 (x0.Elements.length + 150000000) x0 x1 x2 x3 x4 x5 true (Znx x0 x1 x2 x3 x4 x5 g0 g1 g2 g3 g4 g5)) ⟨e0, e1, e2, e3, e4, e5, trivial⟩).mono fun e W' ⟨he, hb⟩ => ?_
  subst he
  exact ⟨_, rfl, Zmo 4 hW' Tryz.laidOut (by kernel_rfl) rfl Tryz.underlying4 rfl rfl rfl rfl hb⟩

theorem topBack_holds : Rows.TopBackSaid :=
  OpenClaim.holds_of_wide 3 Tryz.f3 rfl rfl rfl rfl rfl rfl rfl ⟨rfl, rfl, rfl, rfl, rfl⟩ rfl rfl rfl rfl rfl (by kernel_rfl) Tryz.func3 (by kernel_rfl)
    (of_decide_eq_true (by kernel_rfl)) (by unfold Func.isWrapper; first | (rw [if_pos (by decide +kernel)]; kernel_rfl) | (rw [if_neg (by decide +kernel)]; exact ⟨rfl, rfl⟩))
    (fun os started H enc _ => topBack_lifted os started H enc)
end Go.Proofs.YtcoojdacfknboafGreat
