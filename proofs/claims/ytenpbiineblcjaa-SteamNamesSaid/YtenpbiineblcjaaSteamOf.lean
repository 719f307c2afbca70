import Derived.Test.YtenpbiineblcjaaSteamA
namespace Go.Proofs.Ytenpbiineblcjaa
open Go.RowKit Go.Shelf
set_option maxHeartbeats 1600000 in
theorem of_any (f : RowT) (s : StrT) (hf : RowB f) (hs : StrB s) (w : World) :
    Calls Try.prog 61 #[vRow f, vStr s] w fun e w' => e = .returned (vPart (flashOf f s)) ∧ Below w.heap.size w w' := by
  have hst := hide (fun W => steam_any f s hf hs W)
  obtain ⟨a, b⟩ := steamOf_bd hf hs
  obtain ⟨c0, c1, d0, d1, e0, e1⟩ := of_bds hf hs
  obtain ⟨T, P, L, V, Sx⟩ := f
  obtain ⟨M, H, S, G⟩ := s
  obtain ⟨_, _, _, _, l0, lv, v1, x0, x1⟩ := hf
  obtain ⟨m0, m1, h0, h1, s0, s1, g0, g1⟩ := hs
  dsimp only at *
  generalize hm : steamOf ⟨T, P, L, V, Sx⟩ ⟨M, H, S, G⟩ = m at *
  by_cases k0 : m = 0
  · subst k0
    simp only [Int.sub_zero] at d0 d1 e0 e1
    show Calls Try.prog 61 #[.agg #[.int .i64 T, .int .i64 P, .int .i64 L, .int .i64 V, .int .i64 Sx], .agg #[.int .i64 M, .int .i64 H, .int .i64 S, .int .i64 G]] w _
    have HM := Lib.hid hm
    clear hm
    go_enter Try.func61, Try.ntmps61
    go_wp2_with (go_at_call 84; refine (unhide hst _).mono ?_; rintro e w1 ⟨rfl, q1, q2, rfl⟩)
    all_goals
      go_region_held3 (fun W => W.cell? ⟨w.heap.size + 1, 2, none⟩ = some (.int .i64 S)) (go_simp) (fail)
      go_wp2
      all_goals
        refine bodyPost_ret (by simp [results, Try.results61, go_sem]; rfl) rfl ⟨congrArg Ending.returned ?_, ?_⟩
        · rw [flash0 HM.out]
          first | (simp [vPart]; done) | (simp [vPart]; omega)
        · exact Below.drew ((((((Below.refl w.heap.size w).alloc (Nat.le_refl _) _).alloc (by simp) _).alloc (by simp; omega) _).alloc (by simp; omega) _).alloc (by simp; omega) _)
  · by_cases k1 : m = M
    · subst k1
      have HM := Lib.hid hm
      clear hm
      show Calls Try.prog 61 #[.agg #[.int .i64 T, .int .i64 P, .int .i64 L, .int .i64 V, .int .i64 Sx], .agg #[.int .i64 m, .int .i64 H, .int .i64 S, .int .i64 G]] w _
      go_enter Try.func61, Try.ntmps61
      go_wp2_with (go_at_call 84; refine (unhide hst _).mono ?_; rintro e w1 ⟨rfl, q1, q2, rfl⟩)
      all_goals
        go_region_held3 (fun W => W.cell? ⟨w.heap.size + 1, 2, none⟩ = some (.int .i64 S)) (go_simp) (fail)
        go_wp2
        all_goals
          refine bodyPost_ret (by simp [results, Try.results61, go_sem]; rfl) rfl ⟨congrArg Ending.returned ?_, ?_⟩
          · rw [flash1 HM.out k0]
            first | (simp [vPart]; done) | (simp [vPart]; omega)
          · exact Below.drew ((((((Below.refl w.heap.size w).alloc (Nat.le_refl _) _).alloc (by simp) _).alloc (by simp; omega) _).alloc (by simp; omega) _).alloc (by simp; omega) _)
    · have HM := Lib.hid hm
      clear hm
      show Calls Try.prog 61 #[.agg #[.int .i64 T, .int .i64 P, .int .i64 L, .int .i64 V, .int .i64 Sx], .agg #[.int .i64 M, .int .i64 H, .int .i64 S, .int .i64 G]] w _
      go_enter Try.func61, Try.ntmps61
      go_wp2_with (go_at_call 84; refine (unhide hst _).mono ?_; rintro e w1 ⟨rfl, q1, q2, rfl⟩)
      all_goals
        go_region_held3 (fun W => W.cell? ⟨w.heap.size + 1, 2, none⟩ = some (.int .i64 S)) (go_simp) (fail)
        go_wp2
        all_goals
          refine bodyPost_ret (by simp [results, Try.results61, go_sem]; rfl) rfl ⟨congrArg Ending.returned ?_, ?_⟩
          · rw [flash2 HM.out k0 k1]
            first | (simp [vPart]; done) | (simp [vPart]; omega)
          · exact Below.drew ((((((Below.refl w.heap.size w).alloc (Nat.le_refl _) _).alloc (by simp) _).alloc (by simp; omega) _).alloc (by simp; omega) _).alloc (by simp; omega) _)
end Go.Proofs.Ytenpbiineblcjaa
