/-
  Contracts of the reference: Right (is a table valid?) and Streams (are all?). For every table and every list.
-/
import Derived.Test.YtenpbiineblcjaaLawB
namespace Go.Proofs.Ytenpbiineblcjaa
open Go.RowKit Go.Shelf

theorem refIn_is (n lo hi : Int) (b : Bool) (h : inB n lo hi = b) (w : World) :
    Calls Try.prog 31 #[.int .i64 n, .int .i64 lo, .int .i64 hi] w fun e w' => e = .returned (.bool b) ∧ w = w' := by
  have := refIn_any n lo hi w
  rwa [h] at this
theorem rightStr_is (M H S G : Int) (b : Bool) (h : Hid (strOk ⟨M, H, S, G⟩ = b)) (w : World) :
    Calls Try.prog 24 #[.agg #[.int .i64 M, .int .i64 H, .int .i64 S, .int .i64 G]] w fun e w' => e = .returned (.bool b) ∧ ∃ o, w.alloc o = w' := by
  have := rightStr_any ⟨M, H, S, G⟩ w
  rw [h.out] at this
  exact this

set_option maxHeartbeats 1600000 in
theorem refStreams_any (A : Option Addr) (c : Nat) (t : List StrT) (hn : t.length ≤ 9223372036854775807) (w : World) (hr : Rds eStr w w.heap.size A t) :
    Calls Try.prog 22 #[.slice A t.length c] w fun e w' => e = .returned (.bool (t.all strOk)) ∧ Below w.heap.size w w' := by
  have HR := hide hr
  clear hr
  go_enter Try.func22, Try.ntmps22
  go_wp2
  go_loopg [3] t.length (fun gg s3 wr => ∃ k : Nat, k ≤ t.length ∧ t.length - k ≤ gg ∧ s3 = .int .i64 k ∧ Aside (Below w.heap.size w wr) ∧ Aside (∀ j x, j < k → t[j]? = some x → strOk x = true))
  case atStart => exact ⟨0, Nat.zero_le _, by omega, rfl, Below.refl _ _, fun j x hj => absurd hj (Nat.not_lt_zero _)⟩
  case round =>
    obtain ⟨k, hk, hg, rfl, BW, N⟩ := hrel
    have hsz := BW.out.size
    by_cases hlt : k < t.length
    · have hx : t[k]? = some (t[k]'hlt) := List.getElem?_eq_getElem _
      generalize t[k]'hlt = x at hx
      have HX := hide hx
      obtain ⟨b, o, rfl, hb, d0, d1, d2, d3⟩ := rdsStr ((unhide HR).later BW.out) hx
      cases hq : strOk x with
      | true =>
        have HQ := Lib.hid hq
        obtain ⟨M, H, S, G⟩ := x
        dsimp only at d0 d1 d2 d3
        have hkn : (k : Int) < t.length := by omega
        clear hx hq
        go_wp2_with (go_at_call 24; refine (rightStr_is _ _ _ _ _ HQ _).mono ?_; rintro e w1 ⟨rfl, o1, rfl⟩)
        go_roundg (t.length - (k + 1))
        case measure => omega
        case rel =>
          refine ⟨k + 1, by omega, by omega, by go_num, BW.out.alloc hsz _, (show Aside _ from fun j y hj hy => ?_)⟩
          by_cases e : j = k
          · subst e
            have h1 := unhide HX
            rw [hy] at h1
            cases h1
            exact HQ.out
          · exact N.out j y (by omega) hy
      | false =>
        have HQ := Lib.hid hq
        have HA := Lib.hid (show t.all strOk = false by
          rw [List.all_eq_false]
          exact ⟨x, List.mem_of_getElem? hx, by simp [hq]⟩)
        obtain ⟨M, H, S, G⟩ := x
        dsimp only at d0 d1 d2 d3
        have hkn : (k : Int) < t.length := by omega
        clear hx hq
        go_wp2_with (go_at_call 24; refine (rightStr_is _ _ _ _ _ HQ _).mono ?_; rintro e w1 ⟨rfl, o1, rfl⟩)
        go_ret
        exact ⟨ret_bool HA.out.symm, BW.out.alloc hsz _⟩
    · obtain rfl : k = t.length := by omega
      have HA := Lib.hid (show t.all strOk = true by
        rw [List.all_eq_true]
        intro x hx
        obtain ⟨j, hj, rfl⟩ := List.getElem_of_mem hx
        exact N.out j _ hj (List.getElem?_eq_getElem _))
      have HB := hide BW.out
      go_wp2_with fail
      go_ret
      exact ⟨ret_bool HA.out.symm, unhide HB⟩

theorem tab_row_false {t : List RowT} {k : Nat} {x : RowT} (hx : t[k]? = some x) (h : rowOk x = false) : tabOk t = false := by
  have : t.all rowOk = false := by
    rw [List.all_eq_false]
    exact ⟨x, List.mem_of_getElem? hx, by simp [h]⟩
  simp [tabOk, this]

set_option maxRecDepth 100000 in
set_option maxHeartbeats 6400000 in
theorem refRight_any (A : Option Addr) (c : Nat) (t : List RowT) (hn : t.length ≤ 9223372036854775807) (w : World) (hr : Rds eRow w w.heap.size A t) :
    Calls Try.prog 21 #[.slice A t.length c] w fun e w' => e = .returned (.bool (tabOk t)) ∧ Below w.heap.size w w' := by
  have HR := hide hr
  clear hr
  go_enter Try.func21, Try.ntmps21
  go_wp2
  go_loopg [3] t.length (fun gg s3 wr => ∃ k : Nat, k ≤ t.length ∧ t.length - k ≤ gg ∧ s3 = .int .i64 k ∧ Aside (Below w.heap.size w wr) ∧ Aside (∀ j x, j < k → t[j]? = some x → rowOk x = true) ∧ Aside (∀ j a b, j + 1 < k → t[j]? = some a → t[j + 1]? = some b → stepOk a b = true))
  case atStart => exact ⟨0, Nat.zero_le _, by omega, rfl, Below.refl _ _, fun j x hj => absurd hj (Nat.not_lt_zero _), fun j a b hj => absurd hj (Nat.not_lt_zero _)⟩
  case round =>
    obtain ⟨k, hk, hg, rfl, BW, N, N2⟩ := hrel
    have hsz := BW.out.size
    by_cases hlt : k < t.length
    · have hx : t[k]? = some (t[k]'hlt) := List.getElem?_eq_getElem _
      generalize t[k]'hlt = x at hx
      have HX := hide hx
      obtain ⟨b, o, rfl, hb, d0, d1, d2, d3, d4⟩ := rdsRow ((unhide HR).later BW.out) hx
      have hkn : (k : Int) < t.length := by omega
      cases hq : rowOk x with
      | false =>
        have HA := Lib.hid (tab_row_false hx hq)
        have HQ := Lib.hid hq
        obtain ⟨T, P, L, V, S⟩ := x
        dsimp only at d0 d1 d2 d3 d4
        clear hx hq
        go_wp2_with (go_at_call 31; refine (refIn_any _ _ _ _).mono ?_; rintro e w1 ⟨rfl, rfl⟩)
        all_goals first
          | (go_ret
             exact ⟨ret_bool HA.out.symm, BW.out.alloc hsz _⟩)
          | (exfalso
             have i1 : inB T 0 400 = true := by assumption
             have i2 : inB P 1 10000 = true := by assumption
             have i3 : inB L 0 4000 = true := by assumption
             have i4 : inB S 0 2000 = true := by assumption
             have i5 : L < V ∧ V ≤ 4000 := by assumption
             have := HQ.out
             simp [rowOk, i1, i2, i3, i4, i5.1, i5.2] at this)
      | true =>
        have HQ := Lib.hid hq
        obtain ⟨T, P, L, V, S⟩ := x
        dsimp only at d0 d1 d2 d3 d4
        obtain ⟨i1, i2, i3, i4, i5, i6⟩ : inB T 0 400 = true ∧ inB P 1 10000 = true ∧ inB L 0 4000 = true ∧ inB S 0 2000 = true ∧ L < V ∧ V ≤ 4000 := by
          simp only [rowOk, Bool.and_eq_true, decide_eq_true_eq] at hq
          exact ⟨hq.1.1.1.1.1, hq.1.1.1.1.2, hq.1.1.1.2, hq.1.1.2, hq.1.2, hq.2⟩
        clear hx hq
        rcases Nat.eq_zero_or_pos k with rfl | hpos
        · rw [show ((0 : Nat) : Int) = 0 from rfl]
          simp only [Nat.zero_mul, Nat.add_zero] at d0 d1 d2 d3 d4
          go_wp2_with (go_at_call 31; refine (refIn_any _ _ _ _).mono ?_; rintro e w1 ⟨rfl, rfl⟩)
          go_quiet (fail)
          go_wp2_with fail
          go_roundg (t.length - 1)
          case measure => omega
          case rel =>
            refine ⟨1, by omega, by omega, by go_num, below_drewN' (BW.out.alloc hsz _) _, (show Aside _ from fun j y hj hy => ?_), (show Aside _ from fun j a b hj => absurd hj (by omega))⟩
            obtain rfl : j = 0 := by omega
            have h1 := unhide HX
            rw [hy] at h1
            cases h1
            exact HQ.out
        · obtain ⟨j, rfl⟩ : ∃ j, k = j + 1 := ⟨k - 1, by omega⟩
          rw [show ((j + 1 : Nat) : Int) = (j : Int) + 1 from rfl] at *
          have hy : t[j]? = some (t[j]'(by omega)) := List.getElem?_eq_getElem _
          generalize t[j]'(by omega) = y at hy
          have HY := hide hy
          obtain ⟨b', o', e1, _, c0, c1, c2, c3, c4⟩ := rdsRow ((unhide HR).later BW.out) hy
          cases e1
          obtain ⟨T', P', L', V', S'⟩ := y
          dsimp only at c0 c1 c2 c3 c4
          have hw : IntKind.i64.wrap (j : Int) = j := w64 (by omega) (by omega)
          have hj0 : (0 : Int) < (j : Int) + 1 := by omega
          have hjl : (j : Int) < t.length := by omega
          have hjn : (0 : Int) ≤ (j : Int) := by omega
          clear hy
          go_wp2_with (go_at_call 31; refine (refIn_any _ _ _ _).mono ?_; rintro e w1 ⟨rfl, rfl⟩)
          by_cases g1 : T ≤ T'
          · have hF := Lib.hid (show stepOk ⟨T', P', L', V', S'⟩ ⟨T, P, L, V, S⟩ = false by simp [stepOk, g1])
            have k1 : decide (T ≤ T') = true := decide_eq_true g1
            go_quiet (fail)
            go_wp2_with fail
            go_ret
            refine ⟨ret_bool ?_, below_drewN' (BW.out.alloc hsz _) _⟩
            have := steps_false (unhide HY) (unhide HX) hF.out
            simp [tabOk, this]
          by_cases g2 : P ≤ P'
          · have hF := Lib.hid (show stepOk ⟨T', P', L', V', S'⟩ ⟨T, P, L, V, S⟩ = false by simp [stepOk, g1, g2])
            have k1 : decide (T ≤ T') = false := decide_eq_false g1
            have k2 : decide (P ≤ P') = true := decide_eq_true g2
            go_quiet (fail)
            go_wp2_with fail
            go_ret
            refine ⟨ret_bool ?_, below_drewN' (BW.out.alloc hsz _) _⟩
            have := steps_false (unhide HY) (unhide HX) hF.out
            simp [tabOk, this]
          by_cases g3 : L ≤ L'
          · have hF := Lib.hid (show stepOk ⟨T', P', L', V', S'⟩ ⟨T, P, L, V, S⟩ = false by simp [stepOk, g1, g2, g3])
            have k1 : decide (T ≤ T') = false := decide_eq_false g1
            have k2 : decide (P ≤ P') = false := decide_eq_false g2
            have k3 : decide (L ≤ L') = true := decide_eq_true g3
            go_quiet (fail)
            go_wp2_with fail
            go_ret
            refine ⟨ret_bool ?_, below_drewN' (BW.out.alloc hsz _) _⟩
            have := steps_false (unhide HY) (unhide HX) hF.out
            simp [tabOk, this]
          by_cases g4 : S < S'
          · have hF := Lib.hid (show stepOk ⟨T', P', L', V', S'⟩ ⟨T, P, L, V, S⟩ = false by simp [stepOk, g1, g2, g3, g4])
            have k1 : decide (T ≤ T') = false := decide_eq_false g1
            have k2 : decide (P ≤ P') = false := decide_eq_false g2
            have k3 : decide (L ≤ L') = false := decide_eq_false g3
            have k4 : decide (S < S') = true := decide_eq_true g4
            go_quiet (fail)
            go_wp2_with fail
            go_ret
            refine ⟨ret_bool ?_, below_drewN' (BW.out.alloc hsz _) _⟩
            have := steps_false (unhide HY) (unhide HX) hF.out
            simp [tabOk, this]
          have hF := Lib.hid (show stepOk ⟨T', P', L', V', S'⟩ ⟨T, P, L, V, S⟩ = true by simp [stepOk, g1, g2, g3, g4])
          have k1 : decide (T ≤ T') = false := decide_eq_false g1
          have k2 : decide (P ≤ P') = false := decide_eq_false g2
          have k3 : decide (L ≤ L') = false := decide_eq_false g3
          have k4 : decide (S < S') = false := decide_eq_false g4
          go_quiet (fail)
          clear k1 k2 k3 k4
          go_wp2_with fail
          go_roundg (t.length - (j + 1 + 1))
          case measure => omega
          case rel =>
            refine ⟨j + 1 + 1, by omega, by omega, by go_num, below_drewN' (BW.out.alloc hsz _) _, (show Aside _ from fun i z hi hz => ?_), (show Aside _ from fun i a b hi ha hb => ?_)⟩
            · by_cases e : i = j + 1
              · subst e
                have h1 := unhide HX
                rw [hz] at h1
                cases h1
                exact HQ.out
              · exact N.out i z (by omega) hz
            · by_cases e : i = j
              · subst e
                have h1 := unhide HX
                have h2 := unhide HY
                rw [hb] at h1
                rw [ha] at h2
                cases h1
                cases h2
                exact hF.out
              · exact N2.out i a b (by omega) ha hb
    · obtain rfl : k = t.length := by omega
      have h1 : t.all rowOk = true := by
        rw [List.all_eq_true]
        intro x hx
        obtain ⟨j, hj, rfl⟩ := List.getElem_of_mem hx
        exact N.out j _ hj (List.getElem?_eq_getElem _)
      have h2 : steps t = true := (steps_iff t).2 fun j a b ha hb => N2.out j a b (by have := (List.getElem?_eq_some_iff.1 hb).1; omega) ha hb
      have HA := Lib.hid (show tabOk t = inB t.length 2 20 by simp [tabOk, h1, h2])
      have HB := hide BW.out
      clear h1 h2
      go_wp2_with fail
      all_goals
        go_ret
        refine ⟨ret_bool ?_, unhide HB⟩
        rw [HA.out]
        simp [inB]
        omega
end Go.Proofs.Ytenpbiineblcjaa
