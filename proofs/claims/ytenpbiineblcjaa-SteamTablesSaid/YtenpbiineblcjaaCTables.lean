/-
  SteamTables, as given: for every input the law returns true, and its arguments read as before. No conditions.
-/
import Derived.Test.YtenpbiineblcjaaEngP
import Derived.Test.YtenpbiineblcjaaPTables
namespace Go.Proofs.Ytenpbiineblcjaa
open Go.ChangeShapes Go.WideShapes Go.ChangeAt Go.RowKit

def gRow (r : RowT) : GRow := ⟨r.T, r.P, r.L, r.V, r.S⟩
def gStr (s : StrT) : GStream := ⟨s.M, s.H, s.S, s.G⟩
theorem tables_calls {A : Option Addr} {t : List RowT} {c : Nat} (hl : t.length ≤ c) (hc : c ≤ 9223372036854775807) (s : StrT) (p q : Int) (W : World) (hr : Rds eRow W W.heap.size A t) :
    Calls Try.prog 12 #[.slice A t.length c, vStr s, .int .i64 p, .int .i64 q] W fun e w' => e = .returned (.bool true) ∧ Below W.heap.size W w' :=
  law_calls (law01_SteamTablesX_ok 1001 (t.map gRow) (gStr s) p q true (tables_true (Nat.le_refl _) _ _ _ _)) ⟨rel_rds eRow gRow c_GRow (fun _ => rfl) hr hl hc, rel_lits _ rfl, .lit _, .lit _, trivial⟩

set_option maxRecDepth 100000 in
theorem steamTables_lifted (os : Os) (started : os.Started) (H : Type) (enc : TypeId × Value → H) :
    ReturnsInHanded {} Try.checked os 12 .any (Rows.steamTablesSpec.pre6 enc Try.prog Try.f12 Rows.steamTablesRow.domain false) (Rows.steamTablesSpec.post enc Try.prog Try.f12 false true false false) := by
  refine returnsInHanded_of_change (C := Try.checked) Try.own started (by kernel_rfl) Try.func12
    (ChangeSpec.witness6 (enc := enc) (C := Try.checked) false ⟨#[], #[.slice none 0 0, .agg #[.int .i64 0, .int .i64 0, .int .i64 0, .int .i64 0], .int .i64 0, .int .i64 0], []⟩ 8 (by kernel_rfl) (by kernel_rfl) (by kernel_rfl) (by kernel_rfl)) ?_
  intro W base args ds gs before hval0 hW _ _
  have hval : ∀ (j : Nat) t v, Try.f12.params[j]? = some t → args[j]? = some v → Value.okWide Try.prog W .any base t v := hval0
  have hW' := hW
  obtain ⟨p, q, hA0, hV, rfl, hfz, hnd⟩ := hW
  have hA : DataW.TrodAll enc Try.prog W 0 (fun _ => true) true Try.f12.params.toList args.toList ds p := hA0
  rw [Try.params12] at hA hval
  obtain ⟨v0, vs0, d0, ds0, p0, q0, hargs, rfl, rfl, h0, r0⟩ := trodAll_cons hA
  obtain ⟨v1, vs1, d1, ds1, p1, q1, rfl, rfl, rfl, h1, r1⟩ := trodAll_cons r0
  obtain ⟨v2, vs2, d2, ds2, p2, q2, rfl, rfl, rfl, h2, r2⟩ := trodAll_cons r1
  obtain ⟨v3, vs3, d3, ds3, p3, q3, rfl, rfl, rfl, h3, r3⟩ := trodAll_cons r2
  obtain ⟨rfl, rfl, rfl⟩ := trodAll_nil r3
  obtain rfl : args = #[v0, v1, v2, v3] := by simpa using congrArg List.toArray hargs
  obtain ⟨rfl, rfl⟩ := trodVars_none hV
  obtain ⟨A0, t0, c0, rfl, hl0, hc0, hr0⟩ := open_table (hval 0 _ v0 rfl rfl) h0
  obtain ⟨s1, rfl, hw1⟩ := open_str (hval 1 _ v1 rfl rfl) h1
  obtain ⟨n2, rfl, _, _, hw2⟩ := open_int Try.underlying3 (hval 2 _ v2 rfl rfl) h2; obtain ⟨lo2, hi2⟩ := bounds_i64 hw2
  obtain ⟨n3, rfl, _, _, hw3⟩ := open_int Try.underlying3 (hval 3 _ v3 rfl rfl) h3; obtain ⟨lo3, hi3⟩ := bounds_i64 hw3
  clear hA0 hval0
  refine (tables_calls hl0 hc0 s1 n2 n3 W hr0).mono fun e W' ⟨he, hb⟩ => ?_
  subst he
  exact ⟨_, rfl, law_post 4 hW' Try.laidOut (by kernel_rfl) rfl Try.underlying4 rfl rfl rfl rfl hb⟩

theorem steamTables_holds : Rows.SteamTablesSaid :=
  OpenClaim.holds_of_wide 12 Try.f12 rfl rfl rfl rfl rfl rfl rfl ⟨rfl, rfl, rfl, rfl, rfl⟩ rfl rfl rfl rfl rfl (by kernel_rfl) Try.func12 (by kernel_rfl)
    (of_decide_eq_true (by kernel_rfl)) (by unfold Func.isWrapper; first | (rw [if_pos (by decide +kernel)]; kernel_rfl) | (rw [if_neg (by decide +kernel)]; exact ⟨rfl, rfl⟩))
    (fun os started H enc _ => steamTables_lifted os started H enc)
end Go.Proofs.Ytenpbiineblcjaa
