/-
  SteamWithin, as given: for every input the law returns true, and its arguments read as before. No conditions.
-/
import Derived.Test.YtenpbiineblcjaaOpen
import Derived.Test.YtenpbiineblcjaaLWithin
namespace Go.Proofs.Ytenpbiineblcjaa
open Go.ChangeShapes Go.WideShapes Go.ChangeAt Go.RowKit

set_option maxRecDepth 100000 in
theorem steamWithin_lifted (os : Os) (started : os.Started) (H : Type) (enc : TypeId × Value → H) :
    ReturnsInHanded {} Try.checked os 9 .any (Rows.steamWithinSpec.pre6 enc Try.prog Try.f9 Rows.steamWithinRow.domain false) (Rows.steamWithinSpec.post enc Try.prog Try.f9 false true false false) := by
  refine returnsInHanded_of_change (C := Try.checked) Try.own started (by kernel_rfl) Try.func9
    (ChangeSpec.witness6 (enc := enc) (C := Try.checked) false ⟨#[], #[.slice none 0 0, .int .u8 0, .int .i64 0, .agg #[.int .i64 0, .int .i64 0], .agg #[.int .i64 0, .int .i64 0], .int .u32 0, .int .u32 0], []⟩ 8 (by kernel_rfl) (by kernel_rfl) (by kernel_rfl) (by kernel_rfl)) ?_
  intro W base args ds gs before hval0 hW _ _
  have hval : ∀ (j : Nat) t v, Try.f9.params[j]? = some t → args[j]? = some v → Value.okWide Try.prog W .any base t v := hval0
  have hW' := hW
  obtain ⟨p, q, hA0, hV, rfl, hfz, hnd⟩ := hW
  have hA : DataW.TrodAll enc Try.prog W 0 (fun _ => true) true Try.f9.params.toList args.toList ds p := hA0
  rw [Try.params9] at hA hval
  obtain ⟨v0, vs0, d0, ds0, p0, q0, hargs, rfl, rfl, h0, r0⟩ := trodAll_cons hA
  obtain ⟨v1, vs1, d1, ds1, p1, q1, rfl, rfl, rfl, h1, r1⟩ := trodAll_cons r0
  obtain ⟨v2, vs2, d2, ds2, p2, q2, rfl, rfl, rfl, h2, r2⟩ := trodAll_cons r1
  obtain ⟨v3, vs3, d3, ds3, p3, q3, rfl, rfl, rfl, h3, r3⟩ := trodAll_cons r2
  obtain ⟨v4, vs4, d4, ds4, p4, q4, rfl, rfl, rfl, h4, r4⟩ := trodAll_cons r3
  obtain ⟨v5, vs5, d5, ds5, p5, q5, rfl, rfl, rfl, h5, r5⟩ := trodAll_cons r4
  obtain ⟨v6, vs6, d6, ds6, p6, q6, rfl, rfl, rfl, h6, r6⟩ := trodAll_cons r5
  obtain ⟨rfl, rfl, rfl⟩ := trodAll_nil r6
  obtain rfl : args = #[v0, v1, v2, v3, v4, v5, v6] := by simpa using congrArg List.toArray hargs
  obtain ⟨rfl, rfl⟩ := trodVars_none hV
  obtain ⟨A0, t0, c0, rfl, hl0, hc0, hr0⟩ := open_table (hval 0 _ v0 rfl rfl) h0
  obtain ⟨n1, rfl, _, _, hw1⟩ := open_int Try.underlying5 (hval 1 _ v1 rfl rfl) h1; obtain ⟨lo1, hi1⟩ := bounds_u8 hw1
  obtain ⟨n2, rfl, _, _, hw2⟩ := open_int Try.underlying3 (hval 2 _ v2 rfl rfl) h2; obtain ⟨lo2, hi2⟩ := bounds_i64 hw2
  obtain ⟨x3, y3, rfl, hx3, hy3⟩ := open_rng (hval 3 _ v3 rfl rfl) h3
  obtain ⟨x4, y4, rfl, hx4, hy4⟩ := open_rng (hval 4 _ v4 rfl rfl) h4
  obtain ⟨n5, rfl, _, _, hw5⟩ := open_int Try.underlying40 (hval 5 _ v5 rfl rfl) h5; obtain ⟨lo5, hi5⟩ := bounds_u32 hw5
  obtain ⟨n6, rfl, _, _, hw6⟩ := open_int Try.underlying40 (hval 6 _ v6 rfl rfl) h6; obtain ⟨lo6, hi6⟩ := bounds_u32 hw6
  clear hA0 hval0
  refine (lawWithin_any A0 c0 t0 n1 n2 x3 y3 x4 y4 n5 n6 (by omega) lo1 hi1 lo5 hi5 lo6 hi6 W hr0).mono fun e W' ⟨he, hb⟩ => ?_
  subst he
  exact ⟨_, rfl, law_post 4 hW' Try.laidOut (by kernel_rfl) rfl Try.underlying4 rfl rfl rfl rfl hb⟩

theorem steamWithin_holds : Rows.SteamWithinSaid :=
  OpenClaim.holds_of_wide 9 Try.f9 rfl rfl rfl rfl rfl rfl rfl ⟨rfl, rfl, rfl, rfl, rfl⟩ rfl rfl rfl rfl rfl (by kernel_rfl) Try.func9 (by kernel_rfl)
    (of_decide_eq_true (by kernel_rfl)) (by unfold Func.isWrapper; first | (rw [if_pos (by decide +kernel)]; kernel_rfl) | (rw [if_neg (by decide +kernel)]; exact ⟨rfl, rfl⟩))
    (fun os started H enc _ => steamWithin_lifted os started H enc)
end Go.Proofs.Ytenpbiineblcjaa
