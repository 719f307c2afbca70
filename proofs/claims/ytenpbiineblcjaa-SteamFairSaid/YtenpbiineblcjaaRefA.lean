/-
  Contracts of the reference's Flash: it is what the flash of package steam makes. For every valid row and stream.
-/
import Derived.Test.YtenpbiineblcjaaSteamOf
namespace Go.Proofs.Ytenpbiineblcjaa
open Go.RowKit Go.Shelf

theorem steamOf_low {f : RowT} {s : StrT} (h : s.H - s.M * f.L ≤ 0) : steamOf f s = 0 := by simp [steamOf, h]
theorem steamOf_all {f : RowT} {s : StrT} (h : 0 < s.H - s.M * f.L) (h' : s.M * f.V ≤ s.H) : steamOf f s = s.M := by
  rw [steamOf, if_neg (by omega), if_pos h']
theorem steamOf_mid {f : RowT} {s : StrT} (h : 0 < s.H - s.M * f.L) (h' : s.H < s.M * f.V) : steamOf f s = (s.H - s.M * f.L) / (f.V - f.L) := by
  rw [steamOf, if_neg (by omega), if_neg (by omega)]

set_option maxHeartbeats 1600000 in
theorem refFlash_any (f : RowT) (s : StrT) (hf : RowB f) (hs : StrB s) (w : World) :
    Calls Try.prog 52 #[vRow f, vStr s] w fun e w' => e = .returned (vPart (flashOf f s)) ∧ Below w.heap.size w w' := by
  obtain ⟨a, b⟩ := steamOf_bd hf hs
  obtain ⟨c0, c1, d0, d1, e0, e1⟩ := of_bds hf hs
  have b1 := mul_bd hs.m0 hs.m1 hf.l0 (show f.L ≤ 4000 from by have := hf.lv; have := hf.v1; omega)
  have b2 := mul_bd hs.m0 hs.m1 (show 0 ≤ f.V from by have := hf.lv; have := hf.l0; omega) hf.v1
  have b3 := mul_bd hs.m0 hs.m1 hf.s0 hf.s1
  have hlow := hide (fun h => @steamOf_low f s h)
  have hall := hide (fun h h' => @steamOf_all f s h h')
  have hmid := hide (fun h h' => @steamOf_mid f s h h')
  have hmh := hide (fun h1 h2 => @mid_heat f s hf h1 h2)
  obtain ⟨T, P, L, V, Sx⟩ := f
  obtain ⟨M, H, S, G⟩ := s
  obtain ⟨_, _, _, _, l0, lv, v1, x0, x1⟩ := hf
  obtain ⟨m0, m1, h0, h1, s0, s1, g0, g1⟩ := hs
  dsimp only at *
  have hz : M = 0 → M * L = 0 := fun h => by rw [h, Int.zero_mul]
  show Calls Try.prog 52 #[.agg #[.int .i64 T, .int .i64 P, .int .i64 L, .int .i64 V, .int .i64 Sx], .agg #[.int .i64 M, .int .i64 H, .int .i64 S, .int .i64 G]] w _
  have fin : ∀ o0 o1 o2 o3 : Obj, Below w.heap.size w ((((w.alloc o0).alloc o1).alloc o2).alloc o3) := fun o0 o1 o2 o3 => (((((Below.refl w.heap.size w).alloc (Nat.le_refl _) _).alloc (by simp) _).alloc (by simp; omega) _).alloc (by simp; omega) _)
  have FIN := hide fin
  clear fin
  generalize hm : steamOf ⟨T, P, L, V, Sx⟩ ⟨M, H, S, G⟩ = m at *
  by_cases ko : H - M * L ≤ 0
  · obtain rfl : m = 0 := unhide hlow ko
    have HM := Lib.hid hm
    clear hm hlow hall hmid hmh
    simp only [Int.sub_zero] at d0 d1 e0 e1
    clear hz
    go_enter Try.func52, Try.ntmps52
    go_wp2
    all_goals
      refine bodyPost_ret (by simp [results, Try.results52, go_sem]; rfl) rfl ⟨congrArg Ending.returned ?_, unhide FIN _ _ _ _⟩
      rw [flash0 HM.out]
      first | (simp [vPart]; done) | (simp [vPart]; omega)
  · by_cases kv : M * V ≤ H
    · obtain rfl : m = M := unhide hall (by omega) kv
      have HM := Lib.hid hm
      clear hm hlow hall hmid hmh
      have kM : 0 < m := by
        rcases Int.lt_or_eq_of_le m0 with h | h
        · exact h
        · have := hz h.symm
          omega
      have kn : m ≠ 0 := by omega
      clear hz
      have HN := hide kn
      clear kn
      go_enter Try.func52, Try.ntmps52
      go_wp2
      all_goals
        refine bodyPost_ret (by simp [results, Try.results52, go_sem]; rfl) rfl ⟨congrArg Ending.returned ?_, unhide FIN _ _ _ _⟩
        rw [flash1 HM.out (unhide HN)]
        first | (simp [vPart]; done) | (simp [vPart]; omega)
  
    · have kq : m = (H - M * L) / (V - L) := unhide hmid (by omega) (by omega)
      have HM := Lib.hid hm
      by_cases k0 : m = 0
      · have kq' : (H - M * L) / (V - L) = 0 := by omega
        subst k0
        clear hm hlow hall hmid hmh kq
        simp only [Int.sub_zero] at d0 d1 e0 e1
        clear hz
        go_enter Try.func52, Try.ntmps52
        go_wp2
        all_goals
          refine bodyPost_ret (by simp [results, Try.results52, go_sem]; rfl) rfl ⟨congrArg Ending.returned ?_, unhide FIN _ _ _ _⟩
          rw [flash0 HM.out]
          first | (simp [vPart]; done) | (simp [vPart]; omega)
    
      · have k1 : m ≠ M := by
          intro e
          have h1 := Int.ediv_lt_of_lt_mul (a := H - M * L) (b := M) (c := V - L) (by omega) (by rw [Int.mul_sub]; omega)
          omega
        have hmm := unhide hmh k0 k1
        have kq' : (H - M * L) / (V - L) = m := kq.symm
        have k1' : (m == M) = false := by simpa using k1
        have k0' : 0 < m := by omega
        have k2' : m < M := by omega
        have H0 := hide k0
        have H1 := hide k1
        clear hm hlow hall hmid hmh kq hz k0 k1
        go_enter Try.func52, Try.ntmps52
        go_wp2
        all_goals
          refine bodyPost_ret (by simp [results, Try.results52, go_sem]; rfl) rfl ⟨congrArg Ending.returned ?_, unhide FIN _ _ _ _⟩
          rw [flash2 HM.out (unhide H0) (unhide H1)]
          first | (simp [vPart]; done) | (simp [vPart]; omega)
    
end Go.Proofs.Ytenpbiineblcjaa
