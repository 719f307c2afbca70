/-
  PlantTables, as given: for every input the law returns true, and its arguments read as before. No conditions.
-/
import Derived.Test.YtlhakkkjgdbdpaaXo
import Derived.Test.YtlhakkkjgdbdpaaEngZ
import Derived.Test.YtlhakkkjgdbdpaaPTabL
namespace Go.Proofs.Ytlhakkkjgdbdpaa
open Go.ChangeShapes Go.WideShapes Go.ChangeAt Go.RowKit Go.Deep Go.Joins

set_option maxRecDepth 100000 in
theorem plantTables_lifted (os : Os) (started : os.Started) (H : Type) (enc : TypeId × Value → H) :
    ReturnsInHanded {} Try.checked os 11 .any (Rows.plantTablesSpec.pre6 enc Try.prog Try.f11 Rows.plantTablesRow.domain false) (Rows.plantTablesSpec.post enc Try.prog Try.f11 false true false false) := by
  refine returnsInHanded_of_change_sized (C := Try.checked) Try.own started (by kernel_rfl) Try.func11
    (ChangeSpec.witness6 (enc := enc) (C := Try.checked) false ⟨#[], #[.agg #[.slice none 0 0, .int .i64 0, .int .i64 0, .int .i64 0, .slice none 0 0], .slice none 0 0, .int .i64 0, .slice none 0 0, .bool false, .int .i64 0, .int .i64 0, .int .i64 0], []⟩ 8 (by kernel_rfl) (by kernel_rfl) (by kernel_rfl) (by kernel_rfl)) ?_
  intro W base args ds gs before hval0 hW _ hsz _
  have hval : ∀ (j : Nat) t v, Try.f11.params[j]? = some t → args[j]? = some v → Value.okWide Try.prog W .any base t v := hval0
  have hW' := hW
  obtain ⟨p, q, hA0, hV, rfl, hfz, hnd⟩ := hW
  have hA : DataW.TrodAll enc Try.prog W 0 (fun _ => true) true Try.f11.params.toList args.toList ds p := hA0
  rw [Try.params11] at hA hval
  obtain ⟨v0, vs0, d0, ds0, p0, q0, hargs, rfl, rfl, h0, r0⟩ := trodAll_cons hA
  obtain ⟨v1, vs1, d1, ds1, p1, q1, rfl, rfl, rfl, h1, r1⟩ := trodAll_cons r0
  obtain ⟨v2, vs2, d2, ds2, p2, q2, rfl, rfl, rfl, h2, r2⟩ := trodAll_cons r1
  obtain ⟨v3, vs3, d3, ds3, p3, q3, rfl, rfl, rfl, h3, r3⟩ := trodAll_cons r2
  obtain ⟨v4, vs4, d4, ds4, p4, q4, rfl, rfl, rfl, h4, r4⟩ := trodAll_cons r3
  obtain ⟨v5, vs5, d5, ds5, p5, q5, rfl, rfl, rfl, h5, r5⟩ := trodAll_cons r4
  obtain ⟨v6, vs6, d6, ds6, p6, q6, rfl, rfl, rfl, h6, r6⟩ := trodAll_cons r5
  obtain ⟨v7, vs7, d7, ds7, p7, q7, rfl, rfl, rfl, h7, r7⟩ := trodAll_cons r6
  obtain ⟨rfl, rfl, rfl⟩ := trodAll_nil r7
  obtain rfl : args = #[v0, v1, v2, v3, v4, v5, v6, v7] := by simpa using congrArg List.toArray hargs
  obtain ⟨rfl, rfl⟩ := trodVars_none hV
  obtain ⟨x0, g0, e0⟩ := Qyf Try.underlying40 opn40 (hval 0 _ v0 rfl rfl) h0 (Qop hsz 0 rfl rfl)
  obtain ⟨x1, g1, e1⟩ := Qtv Try.underlying37 opn37 (fun l => .dat 1 (l.map Qab)) (fun _ => rfl) (hval 1 _ v1 rfl rfl) h1 (Qop hsz 1 rfl rfl)
  obtain ⟨x2, g2, e2⟩ := Qr0 Try.underlying3 (by kernel_rfl) (hval 2 _ v2 rfl rfl) h2 (Qop hsz 2 rfl rfl)
  obtain ⟨x3, g3, e3⟩ := Qtv Try.underlying42 opn42 (fun l => .dat 1 (l.map Qa3)) (fun _ => rfl) (hval 3 _ v3 rfl rfl) h3 (Qop hsz 3 rfl rfl)
  obtain ⟨x4, g4, e4⟩ := opv_bool Try.underlying4 (by kernel_rfl) (hval 4 _ v4 rfl rfl) h4 (Qop hsz 4 rfl rfl)
  obtain ⟨x5, g5, e5⟩ := Qr0 Try.underlying3 (by kernel_rfl) (hval 5 _ v5 rfl rfl) h5 (Qop hsz 5 rfl rfl)
  obtain ⟨x6, g6, e6⟩ := Qr0 Try.underlying3 (by kernel_rfl) (hval 6 _ v6 rfl rfl) h6 (Qop hsz 6 rfl rfl)
  obtain ⟨x7, g7, e7⟩ := Qr0 Try.underlying3 (by kernel_rfl) (hval 7 _ v7 rfl rfl) h7 (Qop hsz 7 rfl rfl)
  clear hA0 hval0
  refine (law_calls (w := W) (vals := #[v0, v1, v2, v3, v4, v5, v6, v7]) (Qlz (x0.Levels.length + x0.Hours.length + 2000) x0 x1 x2 x3 x4 x5 x6 x7 true (Qx8 x0 x1 x2 x3 x4 x5 x6 x7 g0 g1 g2 g3 g4 g5 g6 g7)) ⟨e0, e1, e2, e3, e4, e5, e6, e7, trivial⟩).mono fun e W' ⟨he, hb⟩ => ?_
  subst he
  exact ⟨_, rfl, law_post 4 hW' Try.laidOut (by kernel_rfl) rfl Try.underlying4 rfl rfl rfl rfl hb⟩

theorem plantTables_holds : Rows.PlantTablesSaid :=
  OpenClaim.holds_of_wide 11 Try.f11 rfl rfl rfl rfl rfl rfl rfl ⟨rfl, rfl, rfl, rfl, rfl⟩ rfl rfl rfl rfl rfl (by kernel_rfl) Try.func11 (by kernel_rfl)
    (of_decide_eq_true (by kernel_rfl)) (by unfold Func.isWrapper; first | (rw [if_pos (by decide +kernel)]; kernel_rfl) | (rw [if_neg (by decide +kernel)]; exact ⟨rfl, rfl⟩))
    (fun os started H enc _ => plantTables_lifted os started H enc)
end Go.Proofs.Ytlhakkkjgdbdpaa
