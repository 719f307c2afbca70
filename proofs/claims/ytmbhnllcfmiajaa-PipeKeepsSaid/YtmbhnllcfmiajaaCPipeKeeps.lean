/-
  PipeKeeps, as given: for every input the law returns true, and its arguments read as before. No conditions.
-/
import Derived.Test.YtmbhnllcfmiajaaXo
import Derived.Test.YtmbhnllcfmiajaaEngZ
import Derived.Test.YtmbhnllcfmiajaaPKL6
namespace Go.Proofs.Ytmbhnllcfmiajaa
open Go.ChangeShapes Go.WideShapes Go.ChangeAt Go.RowKit Go.Deep Go.Joins

set_option maxRecDepth 100000 in
theorem pipeKeeps_lifted (os : Os) (started : os.Started) (H : Type) (enc : TypeId × Value → H) :
    ReturnsInHanded {} Try.checked os 3 .any (Rows.pipeKeepsSpec.pre6 enc Try.prog Try.f3 Rows.pipeKeepsRow.domain false) (Rows.pipeKeepsSpec.post enc Try.prog Try.f3 false true false false) := by
  refine returnsInHanded_of_change_sized (C := Try.checked) Try.own started (by kernel_rfl) Try.func3
    (ChangeSpec.witness6 (enc := enc) (C := Try.checked) false ⟨#[], #[.agg #[.slice none 0 0, .slice none 0 0], .slice none 0 0, .slice none 0 0], []⟩ 8 (by kernel_rfl) (by kernel_rfl) (by kernel_rfl) (by kernel_rfl)) ?_
  intro W base args ds gs before hval0 hW _ hsz _
  have hval : ∀ (j : Nat) t v, Try.f3.params[j]? = some t → args[j]? = some v → Value.okWide Try.prog W .any base t v := hval0
  have hW' := hW
  obtain ⟨p, q, hA0, hV, rfl, hfz, hnd⟩ := hW
  have hA : DataW.TrodAll enc Try.prog W 0 (fun _ => true) true Try.f3.params.toList args.toList ds p := hA0
  rw [Try.params3] at hA hval
  obtain ⟨v0, vs0, d0, ds0, p0, q0, hargs, rfl, rfl, h0, r0⟩ := trodAll_cons hA
  obtain ⟨v1, vs1, d1, ds1, p1, q1, rfl, rfl, rfl, h1, r1⟩ := trodAll_cons r0
  obtain ⟨v2, vs2, d2, ds2, p2, q2, rfl, rfl, rfl, h2, r2⟩ := trodAll_cons r1
  obtain ⟨rfl, rfl, rfl⟩ := trodAll_nil r2
  obtain rfl : args = #[v0, v1, v2] := by simpa using congrArg List.toArray hargs
  obtain ⟨rfl, rfl⟩ := trodVars_none hV
  obtain ⟨x0, g0, e0⟩ := Q1z Try.underlying26 Zhj (hval 0 _ v0 rfl rfl) h0 (Q4e hsz 0 rfl rfl)
  obtain ⟨x1, g1, e1⟩ := Qu6 Try.underlying27 Zgd (fun l => .dat 1 (l.map Qam)) (fun _ => rfl) (hval 1 _ v1 rfl rfl) h1 (Q4e hsz 1 rfl rfl)
  obtain ⟨x2, g2, e2⟩ := Qu6 Try.underlying28 Zhi (fun l => .dat 4 (l.map Qab)) (fun _ => rfl) (hval 2 _ v2 rfl rfl) h2 (Q4e hsz 2 rfl rfl)
  clear hA0 hval0
  refine (Q5q (w := W) (vals := #[v0, v1, v2]) (Qmu (x0.Elements.length + x1.length + 2000) x0 x1 x2 true (Q5s x0 x1 x2 g0 g1 g2)) ⟨e0, e1, e2, trivial⟩).mono fun e W' ⟨he, hb⟩ => ?_
  subst he
  exact ⟨_, rfl, Q8y 4 hW' Try.laidOut (by kernel_rfl) rfl Try.underlying4 rfl rfl rfl rfl hb⟩

theorem pipeKeeps_holds : Rows.PipeKeepsSaid :=
  OpenClaim.holds_of_wide 3 Try.f3 rfl rfl rfl rfl rfl rfl rfl ⟨rfl, rfl, rfl, rfl, rfl⟩ rfl rfl rfl rfl rfl (by kernel_rfl) Try.func3 (by kernel_rfl)
    (of_decide_eq_true (by kernel_rfl)) (by unfold Func.isWrapper; first | (rw [if_pos (by decide +kernel)]; kernel_rfl) | (rw [if_neg (by decide +kernel)]; exact ⟨rfl, rfl⟩))
    (fun os started H enc _ => pipeKeeps_lifted os started H enc)
end Go.Proofs.Ytmbhnllcfmiajaa
