/-
  Contracts of the small functions of package steam: within, alone, valid, has, checked, gcd, ends, flash. Each for every argument, but where bounds are named.
-/
import Derived.Test.YtenpbiineblcjaaSteamAll
namespace Go.Proofs.Ytenpbiineblcjaa
open Go.RowKit Go.Shelf

abbrev vRow (r : RowT) : Value := .agg #[.int .i64 r.T, .int .i64 r.P, .int .i64 r.L, .int .i64 r.V, .int .i64 r.S]
abbrev vStr (s : StrT) : Value := .agg #[.int .i64 s.M, .int .i64 s.H, .int .i64 s.S, .int .i64 s.G]
abbrev vPart (p : PartT) : Value := .agg #[.int .i64 p.st.M, .int .i64 p.st.H, .int .i64 p.st.S, .int .i64 p.st.G, .int .i64 p.wa.M, .int .i64 p.wa.H, .int .i64 p.wa.S, .int .i64 p.wa.G, .int .i64 p.rest, .int .i64 p.scale]
theorem ret_int {k : IntKind} {a b : Int} (h : a = b) : Ending.returned (.int k a) = .returned (.int k b) := by rw [h]
theorem ret_bool {a b : Bool} (h : a = b) : Ending.returned (.bool a) = .returned (.bool b) := by rw [h]

theorem within_any (n lo hi : Int) (w : World) :
    Calls Try.prog 65 #[.int .i64 n, .int .i64 lo, .int .i64 hi] w fun e w' => e = .returned (.bool (inB n lo hi)) ∧ w = w' := by
  go_enter Try.func65, Try.ntmps65
  go_wp2
  · go_ret
    have : lo ≤ n := by assumption
    exact ⟨by simp [inB, this], rfl⟩
  · go_ret
    have : n < lo := by assumption
    have h : ¬ lo ≤ n := by omega
    exact ⟨by simp [inB, h], rfl⟩

set_option maxHeartbeats 800000 in
theorem alone_any (r : RowT) (w : World) :
    Calls Try.prog 81 #[vRow r] w fun e w' => e = .returned (.bool (rowOk r)) ∧ ∃ o, w.alloc o = w' := by
  obtain ⟨T, P, L, V, S⟩ := r
  show Calls Try.prog 81 #[.agg #[.int .i64 T, .int .i64 P, .int .i64 L, .int .i64 V, .int .i64 S]] w fun e w' => e = .returned (.bool (inB T 0 400 && inB P 1 10000 && inB L 0 4000 && inB S 0 2000 && decide (L < V) && decide (V ≤ 4000))) ∧ ∃ o, w.alloc o = w'
  go_enter Try.func81, Try.ntmps81
  go_wp2_with (go_at_call 65; refine (within_any _ _ _ _).mono ?_; rintro e w' ⟨rfl, rfl⟩)
  all_goals
    go_ret
    exact ⟨ret_bool (by first | (simp [*]; done) | (simp [*]; omega)), _, rfl⟩

set_option maxHeartbeats 800000 in
theorem svalid_any (s : StrT) (w : World) :
    Calls Try.prog 63 #[vStr s] w fun e w' => e = .returned (.bool (strOk s)) ∧ ∃ o, w.alloc o = w' := by
  obtain ⟨M, H, S, G⟩ := s
  show Calls Try.prog 63 #[.agg #[.int .i64 M, .int .i64 H, .int .i64 S, .int .i64 G]] w fun e w' => e = .returned (.bool (inB M 0 1000000 && inB H 0 (4000 * M) && inB S 0 (10000 * M) && inB G 0 1000000000)) ∧ ∃ o, w.alloc o = w'
  by_cases hm : 0 ≤ M ∧ M ≤ 1000000
  · obtain ⟨m0, m1⟩ := hm
    have hb : inB M 0 1000000 = true := inB_of m0 m1
    go_enter Try.func63, Try.ntmps63
    go_wp2_with (go_at_call 65; refine (within_any _ _ _ _).mono ?_; rintro e w' ⟨rfl, rfl⟩)
    all_goals
      go_ret
      exact ⟨ret_bool (by simp [*]), _, rfl⟩
  · have hb : inB M 0 1000000 = false := inB_not hm
    go_enter Try.func63, Try.ntmps63
    go_wp2_with (go_at_call 65; refine (within_any _ _ _ _).mono ?_; rintro e w' ⟨rfl, rfl⟩)
    all_goals
      go_ret
      exact ⟨ret_bool (by simp [*]), _, rfl⟩

set_option maxHeartbeats 800000 in
theorem steam_any (f : RowT) (s : StrT) (hf : RowB f) (hs : StrB s) (w : World) :
    Calls Try.prog 84 #[vRow f, vStr s] w fun e w' => e = .returned (.int .i64 (steamOf f s)) ∧ ∃ o1 o2, (w.alloc o1).alloc o2 = w' := by
  have b1 := mul_bd hs.m0 hs.m1 hf.l0 (show f.L ≤ 4000 from by have := hf.lv; have := hf.v1; omega)
  have b2 := mul_bd hs.m0 hs.m1 (show 0 ≤ f.V from by have := hf.lv; have := hf.l0; omega) hf.v1
  obtain ⟨T, P, L, V, Sx⟩ := f
  obtain ⟨M, H, S, G⟩ := s
  obtain ⟨_, _, _, _, l0, lv, v1, _, _⟩ := hf
  obtain ⟨m0, m1, h0, h1, s0, s1, g0, g1⟩ := hs
  obtain ⟨c0, c1⟩ := b1
  obtain ⟨d0, d1⟩ := b2
  dsimp only at *
  show Calls Try.prog 84 #[.agg #[.int .i64 T, .int .i64 P, .int .i64 L, .int .i64 V, .int .i64 Sx], .agg #[.int .i64 M, .int .i64 H, .int .i64 S, .int .i64 G]] w fun e w' => e = .returned (.int .i64 (if H - M * L ≤ 0 then 0 else if M * V ≤ H then M else (H - M * L) / (V - L))) ∧ ∃ o1 o2, (w.alloc o1).alloc o2 = w'
  go_enter Try.func84, Try.ntmps84
  go_wp2
  · go_ret
    exact ⟨ret_int (by first | rfl | rw [if_pos (by omega)]), _, _, rfl⟩
  · go_ret
    exact ⟨ret_int (by first | rfl | rw [if_neg (by omega), if_pos (by omega)]), _, _, rfl⟩
  · go_ret
    exact ⟨ret_int (by first | rfl | rw [if_neg (by omega), if_neg (by omega)]), _, _, rfl⟩

/-- The steam is known: the rest of the flash. -/
theorem of_bds {f : RowT} {s : StrT} (hf : RowB f) (hs : StrB s) : 0 ≤ steamOf f s * f.V ∧ steamOf f s * f.V ≤ 4000000000 ∧ 0 ≤ (s.M - steamOf f s) * f.S ∧ (s.M - steamOf f s) * f.S ≤ 2000000000 ∧ 0 ≤ (s.M - steamOf f s) * f.L ∧ (s.M - steamOf f s) * f.L ≤ 4000000000 := by
  obtain ⟨a, b⟩ := steamOf_bd hf hs
  have m1 := hs.m1
  have c := mul_bd a (Int.le_trans b m1) (show 0 ≤ f.V from by have := hf.lv; have := hf.l0; omega) hf.v1
  have d := mul_bd (show 0 ≤ s.M - steamOf f s by omega) (show s.M - steamOf f s ≤ 1000000 by omega) hf.s0 hf.s1
  have e := mul_bd (show 0 ≤ s.M - steamOf f s by omega) (show s.M - steamOf f s ≤ 1000000 by omega) hf.l0 (show f.L ≤ 4000 from by have := hf.lv; have := hf.v1; omega)
  omega

end Go.Proofs.Ytenpbiineblcjaa
