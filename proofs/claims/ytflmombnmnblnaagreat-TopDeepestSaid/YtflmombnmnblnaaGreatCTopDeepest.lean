/-
  TopDeepest, as given: for every input the law returns true, and its arguments read as before. No conditions.
-/
import Derived.Test.YtflmombnmnblnaaGreatG5
namespace Go.Proofs.YtflmombnmnblnaaGreat
open Go.ChangeShapes Go.WideShapes Go.ChangeAt Go.RowKit Go.Deep Go.Joins

set_option maxRecDepth 100000 in
theorem topDeepest_lifted (os : Os) (started : os.Started) (H : Type) (enc : TypeId × Value → H) :
    ReturnsInHanded {} Tryz.checked os 4 .any (Rows.topDeepestSpec.pre6 enc Tryz.prog Tryz.f4 Rows.topDeepestRow.domain false) (Rows.topDeepestSpec.post enc Tryz.prog Tryz.f4 false true false false) := by
  refine returnsInHanded_of_change_sized (C := Tryz.checked) Tryz.own started (by kernel_rfl) Tryz.func4
    (ChangeSpec.witness6 (enc := enc) (C := Tryz.checked) false ⟨#[], #[.slice none 0 0, .slice none 0 0, .int .u8 0], []⟩ 8 (by kernel_rfl) (by kernel_rfl) (by kernel_rfl) (by kernel_rfl)) ?_
  intro W base args ds gs before hval0 hW _ hsz _
  have hval : ∀ (j : Nat) t v, Tryz.f4.params[j]? = some t → args[j]? = some v → Value.okWide Tryz.prog W .any base t v := hval0
  have hW' := hW
  obtain ⟨p, q, hA0, hV, rfl, hfz, hnd⟩ := hW
  have hA : DataW.TrodAll enc Tryz.prog W 0 (fun _ => true) true Tryz.f4.params.toList args.toList ds p := hA0
  rw [Tryz.params4] at hA hval
  obtain ⟨v0, vs0, d0, ds0, p0, q0, hargs, rfl, rfl, h0, r0⟩ := trodAll_cons hA
  obtain ⟨v1, vs1, d1, ds1, p1, q1, rfl, rfl, rfl, h1, r1⟩ := trodAll_cons r0
  obtain ⟨v2, vs2, d2, ds2, p2, q2, rfl, rfl, rfl, h2, r2⟩ := trodAll_cons r1
  obtain ⟨rfl, rfl, rfl⟩ := trodAll_nil r2
  obtain rfl : args = #[v0, v1, v2] := by simpa using congrArg List.toArray hargs
  obtain ⟨rfl, rfl⟩ := trodVars_none hV
  obtain ⟨x0, g0, e0⟩ := Qw4 Tryz.underlying23 Zle (fun l => .dat 5 (l.map Qam)) (fun _ => rfl) (hval 0 _ v0 rfl rfl) h0 (Q53 hsz 0 rfl rfl)
  obtain ⟨x1, g1, e1⟩ := Qw4 Tryz.underlying66 Zlc (fun l => .dat 4 (l.map Qac)) (fun _ => rfl) (hval 1 _ v1 rfl rfl) h1 (Q53 hsz 1 rfl rfl)
  obtain ⟨x2, g2, e2⟩ := Zf0 Tryz.underlying5 (by kernel_rfl) (hval 2 _ v2 rfl rfl) h2 (Q53 hsz 2 rfl rfl)
  clear hA0 hval0
  refine (Q7s (w := W) (vals := #[v0, v1, v2]) (Qou (x0.length + 2000) x0 x1 x2 true (Qzl x0 x1 x2 g0 g1 g2)) ⟨e0, e1, e2, trivial⟩).mono fun e W' ⟨he, hb⟩ => ?_
  subst he
  exact ⟨_, rfl, Za2 4 hW' Tryz.laidOut (by kernel_rfl) rfl Tryz.underlying4 rfl rfl rfl rfl hb⟩

theorem topDeepest_holds : Rows.TopDeepestSaid :=
  OpenClaim.holds_of_wide 4 Tryz.f4 rfl rfl rfl rfl rfl rfl rfl ⟨rfl, rfl, rfl, rfl, rfl⟩ rfl rfl rfl rfl rfl (by kernel_rfl) Tryz.func4 (by kernel_rfl)
    (of_decide_eq_true (by kernel_rfl)) (by unfold Func.isWrapper; first | (rw [if_pos (by decide +kernel)]; kernel_rfl) | (rw [if_neg (by decide +kernel)]; exact ⟨rfl, rfl⟩))
    (fun os started H enc _ => topDeepest_lifted os started H enc)
end Go.Proofs.YtflmombnmnblnaaGreat
