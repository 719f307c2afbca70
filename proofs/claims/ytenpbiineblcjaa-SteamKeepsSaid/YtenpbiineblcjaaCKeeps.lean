/-
  SteamKeeps, as given: for every input the law returns true, and its arguments read as before. No conditions.
-/
import Derived.Test.YtenpbiineblcjaaEngP
import Derived.Test.YtenpbiineblcjaaPKeeps
namespace Go.Proofs.Ytenpbiineblcjaa
open Go.ChangeShapes Go.WideShapes Go.ChangeAt Go.RowKit

def gRow (r : RowT) : GRow := ⟨r.T, r.P, r.L, r.V, r.S⟩
def gStr (s : StrT) : GStream := ⟨s.M, s.H, s.S, s.G⟩
theorem keeps_calls {A A2 A3 : Option Addr} {t : List RowT} {c : Nat} {l : List Int} {c2 : Nat} {ss : List StrT} {c3 : Nat} (hl : t.length ≤ c) (hc : c ≤ 9223372036854775807) (hl2 : l.length ≤ c2) (hc2 : c2 ≤ 9223372036854775807) (hl3 : ss.length ≤ c3) (hc3 : c3 ≤ 9223372036854775807) {f : Int} (f0 : 0 ≤ f) (f1 : f ≤ 4294967295) (W : World) (hr : Rds eRow W W.heap.size A t) (hr2 : Rds eInt W W.heap.size A2 l) (hr3 : Rds eStr W W.heap.size A3 ss) :
    Calls Try.prog 15 #[.slice A t.length c, .slice A2 l.length c2, .slice A3 ss.length c3, .int .u32 f] W fun e w' => e = .returned (.bool true) ∧ Below W.heap.size W w' := by
  have h2 := rel_rds eInt (fun x : Int => x) c_i64 (fun _ => rfl) hr2 hl2 hc2
  rw [List.map_id'] at h2
  exact law_calls (law01_SteamKeepsX_ok (1001 + t.length + l.length) (t.map gRow) l (ss.map gStr) f true (keeps_true _ _ _ _ (by simp) (by simpa using Nat.le_trans hl hc) (Nat.le_trans hl2 hc2) f0 f1)) ⟨rel_rds eRow gRow c_GRow (fun _ => rfl) hr hl hc, h2, rel_rds eStr gStr c_GStream (fun _ => rfl) hr3 hl3 hc3, .lit _, trivial⟩

set_option maxRecDepth 100000 in
theorem steamKeeps_lifted (os : Os) (started : os.Started) (H : Type) (enc : TypeId × Value → H) :
    ReturnsInHanded {} Try.checked os 15 .any (Rows.steamKeepsSpec.pre6 enc Try.prog Try.f15 Rows.steamKeepsRow.domain false) (Rows.steamKeepsSpec.post enc Try.prog Try.f15 false true false false) := by
  refine returnsInHanded_of_change (C := Try.checked) Try.own started (by kernel_rfl) Try.func15
    (ChangeSpec.witness6 (enc := enc) (C := Try.checked) false ⟨#[], #[.slice none 0 0, .slice none 0 0, .slice none 0 0, .int .u32 0], []⟩ 8 (by kernel_rfl) (by kernel_rfl) (by kernel_rfl) (by kernel_rfl)) ?_
  intro W base args ds gs before hval0 hW _ _
  have hval : ∀ (j : Nat) t v, Try.f15.params[j]? = some t → args[j]? = some v → Value.okWide Try.prog W .any base t v := hval0
  have hW' := hW
  obtain ⟨p, q, hA0, hV, rfl, hfz, hnd⟩ := hW
  have hA : DataW.TrodAll enc Try.prog W 0 (fun _ => true) true Try.f15.params.toList args.toList ds p := hA0
  rw [Try.params15] at hA hval
  obtain ⟨v0, vs0, d0, ds0, p0, q0, hargs, rfl, rfl, h0, r0⟩ := trodAll_cons hA
  obtain ⟨v1, vs1, d1, ds1, p1, q1, rfl, rfl, rfl, h1, r1⟩ := trodAll_cons r0
  obtain ⟨v2, vs2, d2, ds2, p2, q2, rfl, rfl, rfl, h2, r2⟩ := trodAll_cons r1
  obtain ⟨v3, vs3, d3, ds3, p3, q3, rfl, rfl, rfl, h3, r3⟩ := trodAll_cons r2
  obtain ⟨rfl, rfl, rfl⟩ := trodAll_nil r3
  obtain rfl : args = #[v0, v1, v2, v3] := by simpa using congrArg List.toArray hargs
  obtain ⟨rfl, rfl⟩ := trodVars_none hV
  obtain ⟨A0, t0, c0, rfl, hl0, hc0, hr0⟩ := open_table (hval 0 _ v0 rfl rfl) h0
  obtain ⟨A1, t1, c1, rfl, hl1, hc1, hr1, hw1⟩ := open_intl (hval 1 _ v1 rfl rfl) h1
  obtain ⟨A2, t2, c2, rfl, hl2, hc2, hr2⟩ := open_strs (hval 2 _ v2 rfl rfl) h2
  obtain ⟨n3, rfl, _, _, hw3⟩ := open_int Try.underlying40 (hval 3 _ v3 rfl rfl) h3; obtain ⟨lo3, hi3⟩ := bounds_u32 hw3
  clear hA0 hval0
  refine (keeps_calls hl0 hc0 hl1 hc1 hl2 hc2 (by omega) (by omega) W hr0 hr1 hr2).mono fun e W' ⟨he, hb⟩ => ?_
  subst he
  exact ⟨_, rfl, law_post 4 hW' Try.laidOut (by kernel_rfl) rfl Try.underlying4 rfl rfl rfl rfl hb⟩

theorem steamKeeps_holds : Rows.SteamKeepsSaid :=
  OpenClaim.holds_of_wide 15 Try.f15 rfl rfl rfl rfl rfl rfl rfl ⟨rfl, rfl, rfl, rfl, rfl⟩ rfl rfl rfl rfl rfl (by kernel_rfl) Try.func15 (by kernel_rfl)
    (of_decide_eq_true (by kernel_rfl)) (by unfold Func.isWrapper; first | (rw [if_pos (by decide +kernel)]; kernel_rfl) | (rw [if_neg (by decide +kernel)]; exact ⟨rfl, rfl⟩))
    (fun os started H enc _ => steamKeeps_lifted os started H enc)
end Go.Proofs.Ytenpbiineblcjaa
