/-
  PlantDispatches, as given: for every input the law returns true, and its arguments read as before. No conditions.
-/
import Derived.Test.YtlhakkkjgdbdpaaXo
import Derived.Test.YtlhakkkjgdbdpaaEngZ
import Derived.Test.YtlhakkkjgdbdpaaPDispL
namespace Go.Proofs.Ytlhakkkjgdbdpaa
open Go.ChangeShapes Go.WideShapes Go.ChangeAt Go.RowKit Go.Deep Go.Joins

set_option maxRecDepth 100000 in
theorem plantDispatches_lifted (os : Os) (started : os.Started) (H : Type) (enc : TypeId × Value → H) :
    ReturnsInHanded {} Try.checked os 7 .any (Rows.plantDispatchesSpec.pre6 enc Try.prog Try.f7 Rows.plantDispatchesRow.domain false) (Rows.plantDispatchesSpec.post enc Try.prog Try.f7 false true false false) := by
  refine returnsInHanded_of_change_sized (C := Try.checked) Try.own started (by kernel_rfl) Try.func7
    (ChangeSpec.witness6 (enc := enc) (C := Try.checked) false ⟨#[], #[.agg #[.slice none 0 0, .int .i64 0, .int .i64 0, .int .i64 0, .slice none 0 0], .slice none 0 0], []⟩ 8 (by kernel_rfl) (by kernel_rfl) (by kernel_rfl) (by kernel_rfl)) ?_
  intro W base args ds gs before hval0 hW _ hsz _
  have hval : ∀ (j : Nat) t v, Try.f7.params[j]? = some t → args[j]? = some v → Value.okWide Try.prog W .any base t v := hval0
  have hW' := hW
  obtain ⟨p, q, hA0, hV, rfl, hfz, hnd⟩ := hW
  have hA : DataW.TrodAll enc Try.prog W 0 (fun _ => true) true Try.f7.params.toList args.toList ds p := hA0
  rw [Try.params7] at hA hval
  obtain ⟨v0, vs0, d0, ds0, p0, q0, hargs, rfl, rfl, h0, r0⟩ := trodAll_cons hA
  obtain ⟨v1, vs1, d1, ds1, p1, q1, rfl, rfl, rfl, h1, r1⟩ := trodAll_cons r0
  obtain ⟨rfl, rfl, rfl⟩ := trodAll_nil r1
  obtain rfl : args = #[v0, v1] := by simpa using congrArg List.toArray hargs
  obtain ⟨rfl, rfl⟩ := trodVars_none hV
  obtain ⟨x0, g0, e0⟩ := Qwj Try.underlying40 opn40 (hval 0 _ v0 rfl rfl) h0 (wts_at hsz 0 rfl rfl)
  obtain ⟨x1, g1, e1⟩ := Qy4 Try.underlying37 opn37 (fun l => .dat 1 (l.map Qab)) (fun _ => rfl) (hval 1 _ v1 rfl rfl) h1 (wts_at hsz 1 rfl rfl)
  clear hA0 hval0
  refine (law_calls (w := W) (vals := #[v0, v1]) (Qjc (x0.Levels.length + x0.Hours.length + 2000) x0 x1 true (Qo6 x0 x1 g0 g1)) ⟨e0, e1, trivial⟩).mono fun e W' ⟨he, hb⟩ => ?_
  subst he
  exact ⟨_, rfl, law_post 4 hW' Try.laidOut (by kernel_rfl) rfl Try.underlying4 rfl rfl rfl rfl hb⟩

theorem plantDispatches_holds : Rows.PlantDispatchesSaid :=
  OpenClaim.holds_of_wide 7 Try.f7 rfl rfl rfl rfl rfl rfl rfl ⟨rfl, rfl, rfl, rfl, rfl⟩ rfl rfl rfl rfl rfl (by kernel_rfl) Try.func7 (by kernel_rfl)
    (of_decide_eq_true (by kernel_rfl)) (by unfold Func.isWrapper; first | (rw [if_pos (by decide +kernel)]; kernel_rfl) | (rw [if_neg (by decide +kernel)]; exact ⟨rfl, rfl⟩))
    (fun os started H enc _ => plantDispatches_lifted os started H enc)
end Go.Proofs.Ytlhakkkjgdbdpaa
