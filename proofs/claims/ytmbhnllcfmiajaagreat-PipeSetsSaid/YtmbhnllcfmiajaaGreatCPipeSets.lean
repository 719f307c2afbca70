/-
  PipeSets, as given: for every input the law returns true, and its arguments read as before. No conditions.
-/
import Derived.Test.YtmbhnllcfmiajaaGreatXo
import Derived.Test.YtmbhnllcfmiajaaGreatEngZ
import Derived.Test.YtmbhnllcfmiajaaGreatPSe6
namespace Go.Proofs.YtmbhnllcfmiajaaGreat
open Go.ChangeShapes Go.WideShapes Go.ChangeAt Go.RowKit Go.Deep Go.Joins

set_option maxRecDepth 100000 in
theorem pipeSets_lifted (os : Os) (started : os.Started) (H : Type) (enc : TypeId × Value → H) :
    ReturnsInHanded {} Tryz.checked os 6 .any (Rows.pipeSetsSpec.pre6 enc Tryz.prog Tryz.f6 Rows.pipeSetsRow.domain false) (Rows.pipeSetsSpec.post enc Tryz.prog Tryz.f6 false true false false) := by
  refine returnsInHanded_of_change_sized (C := Tryz.checked) Tryz.own started (by kernel_rfl) Tryz.func6
    (ChangeSpec.witness6 (enc := enc) (C := Tryz.checked) false ⟨#[], #[.agg #[.slice none 0 0, .slice none 0 0], .slice none 0 0], []⟩ 8 (by kernel_rfl) (by kernel_rfl) (by kernel_rfl) (by kernel_rfl)) ?_
  intro W base args ds gs before hval0 hW _ hsz _
  have hval : ∀ (j : Nat) t v, Tryz.f6.params[j]? = some t → args[j]? = some v → Value.okWide Tryz.prog W .any base t v := hval0
  have hW' := hW
  obtain ⟨p, q, hA0, hV, rfl, hfz, hnd⟩ := hW
  have hA : DataW.TrodAll enc Tryz.prog W 0 (fun _ => true) true Tryz.f6.params.toList args.toList ds p := hA0
  rw [Tryz.params6] at hA hval
  obtain ⟨v0, vs0, d0, ds0, p0, q0, hargs, rfl, rfl, h0, r0⟩ := trodAll_cons hA
  obtain ⟨v1, vs1, d1, ds1, p1, q1, rfl, rfl, rfl, h1, r1⟩ := trodAll_cons r0
  obtain ⟨rfl, rfl, rfl⟩ := trodAll_nil r1
  obtain rfl : args = #[v0, v1] := by simpa using congrArg List.toArray hargs
  obtain ⟨rfl, rfl⟩ := trodVars_none hV
  obtain ⟨x0, g0, e0⟩ := Q1a Tryz.underlying26 Zio (hval 0 _ v0 rfl rfl) h0 (Zbk hsz 0 rfl rfl)
  obtain ⟨x1, g1, e1⟩ := Q47 Tryz.underlying27 Zg8 (fun l => .dat 1 (l.map Qaj)) (fun _ => rfl) (hval 1 _ v1 rfl rfl) h1 (Zbk hsz 1 rfl rfl)
  clear hA0 hval0
  refine (Q5o (w := W) (vals := #[v0, v1]) (Qm7 (x0.Elements.length + x1.length + 2000) x0 x1 true (Q8f x0 x1 g0 g1)) ⟨e0, e1, trivial⟩).mono fun e W' ⟨he, hb⟩ => ?_
  subst he
  exact ⟨_, rfl, Q8q 4 hW' Tryz.laidOut (by kernel_rfl) rfl Tryz.underlying4 rfl rfl rfl rfl hb⟩

theorem pipeSets_holds : Rows.PipeSetsSaid :=
  OpenClaim.holds_of_wide 6 Tryz.f6 rfl rfl rfl rfl rfl rfl rfl ⟨rfl, rfl, rfl, rfl, rfl⟩ rfl rfl rfl rfl rfl (by kernel_rfl) Tryz.func6 (by kernel_rfl)
    (of_decide_eq_true (by kernel_rfl)) (by unfold Func.isWrapper; first | (rw [if_pos (by decide +kernel)]; kernel_rfl) | (rw [if_neg (by decide +kernel)]; exact ⟨rfl, rfl⟩))
    (fun os started H enc _ => pipeSets_lifted os started H enc)
end Go.Proofs.YtmbhnllcfmiajaaGreat
