/-
  Contracts of the makers and of the reference's small functions: Stream, In, RightStream; Heated and Exchange of package steam. No conditions.
-/
import Derived.Test.YtenpbiineblcjaaAwake
namespace Go.Proofs.Ytenpbiineblcjaa
open Go.RowKit Go.Shelf

theorem mkStr_any (s : StrT) (w : World) :
    Calls Try.prog 26 #[vStr s] w fun e w' => e = .returned (vStr s) ∧ ∃ o1 o2, (w.alloc o1).alloc o2 = w' := by
  obtain ⟨M, H, S, G⟩ := s
  go_enter Try.func26, Try.ntmps26
  go_wp2
  refine bodyPost_ret (v := .agg #[.int .i64 M, .int .i64 H, .int .i64 S, .int .i64 G]) (by simp [results, Try.results26, go_sem]) rfl ⟨rfl, _, _, rfl⟩

theorem refIn_any (n lo hi : Int) (w : World) :
    Calls Try.prog 31 #[.int .i64 n, .int .i64 lo, .int .i64 hi] w fun e w' => e = .returned (.bool (inB n lo hi)) ∧ w = w' := by
  go_enter Try.func31, Try.ntmps31
  go_wp2
  · go_ret
    have : lo ≤ n := by assumption
    exact ⟨by simp [inB, this], rfl⟩
  · go_ret
    have : n < lo := by assumption
    have h : ¬ lo ≤ n := by omega
    exact ⟨by simp [inB, h], rfl⟩

set_option maxHeartbeats 800000 in
theorem rightStr_any (s : StrT) (w : World) :
    Calls Try.prog 24 #[vStr s] w fun e w' => e = .returned (.bool (strOk s)) ∧ ∃ o, w.alloc o = w' := by
  obtain ⟨M, H, S, G⟩ := s
  show Calls Try.prog 24 #[.agg #[.int .i64 M, .int .i64 H, .int .i64 S, .int .i64 G]] w fun e w' => e = .returned (.bool (inB M 0 1000000 && inB H 0 (4000 * M) && inB S 0 (10000 * M) && inB G 0 1000000000)) ∧ ∃ o, w.alloc o = w'
  by_cases hm : 0 ≤ M ∧ M ≤ 1000000
  · obtain ⟨m0, m1⟩ := hm
    have hb : inB M 0 1000000 = true := inB_of m0 m1
    go_enter Try.func24, Try.ntmps24
    go_wp2_with (go_at_call 31; refine (refIn_any _ _ _ _).mono ?_; rintro e w' ⟨rfl, rfl⟩)
    all_goals
      go_ret
      exact ⟨ret_bool (by simp [*]), _, rfl⟩
  · have hb : inB M 0 1000000 = false := inB_not hm
    go_enter Try.func24, Try.ntmps24
    go_wp2_with (go_at_call 31; refine (refIn_any _ _ _ _).mono ?_; rintro e w' ⟨rfl, rfl⟩)
    all_goals
      go_ret
      exact ⟨ret_bool (by simp [*]), _, rfl⟩

def heatR (s : StrT) (k : Int) : StrT × Int :=
  if strOk s = false then (.zero, 1) else if k < -s.H ∨ 4000 * s.M - s.H < k then (.zero, 2) else (⟨s.M, s.H + k, s.S, s.G⟩, 0)

theorem w64 {n : Int} (h : -9223372036854775808 ≤ n) (h' : n ≤ 9223372036854775807) : IntKind.i64.wrap n = n := by rw [IntKind.wrap_i64]; omega

theorem heated_any (s : StrT) (k : Int) (w : World) :
    Calls Try.prog 44 #[vStr s, .int .i64 k] w fun e w' => e = .returned (.tuple #[vStr (heatR s k).1, .int .i64 (heatR s k).2]) ∧ ∃ o1 o2 o3, ((w.alloc o1).alloc o2).alloc o3 = w' := by
  have HV := hide (fun W => svalid_any s W)
  cases hq : strOk s with
  | false =>
    have HF := Lib.hid (show heatR s k = (StrT.zero, 1) by simp [heatR, hq])
    rw [hq] at HV
    clear hq
    obtain ⟨M, H, S, G⟩ := s
    go_enter Try.func44, Try.ntmps44
    go_wp2_with (go_at_call 63; refine (unhide HV _).mono ?_; rintro e w1 ⟨rfl, o, rfl⟩)
    refine bodyPost_ret (v := .tuple #[.agg #[.int .i64 0, .int .i64 0, .int .i64 0, .int .i64 0], .int .i64 1]) (by simp [results, Try.results44, go_sem]) rfl ⟨by rw [HF.out]; rfl, _, _, _, rfl⟩
  | true =>
    have B := strOk_iff.1 hq
    have HQ := Lib.hid hq
    rw [hq] at HV
    clear hq
    obtain ⟨M, H, S, G⟩ := s
    have b0 : 0 ≤ M := B.m0
    have b1 : M ≤ 1000000 := B.m1
    have b2 : 0 ≤ H := B.h0
    have b3 : H ≤ 4000 * M := B.h1
    have e1 : IntKind.i64.wrap (-H) = -H := w64 (by omega) (by omega)
    have e2 : IntKind.i64.wrap (4000 * M) = 4000 * M := w64 (by omega) (by omega)
    have e3 : IntKind.i64.wrap (4000 * M - H) = 4000 * M - H := w64 (by omega) (by omega)
    clear B
    by_cases hk : k < -H ∨ 4000 * M - H < k
    · have HF := Lib.hid (show heatR ⟨M, H, S, G⟩ k = (StrT.zero, 2) by simp [heatR, HQ.out, hk])
      go_enter Try.func44, Try.ntmps44
      go_wp2_with (go_at_call 63; refine (unhide HV _).mono ?_; rintro e w1 ⟨rfl, o, rfl⟩)
      all_goals refine bodyPost_ret (v := .tuple #[.agg #[.int .i64 0, .int .i64 0, .int .i64 0, .int .i64 0], .int .i64 2]) (by simp [results, Try.results44, go_sem]) rfl ⟨by rw [HF.out]; rfl, _, _, _, rfl⟩
    · have HF := Lib.hid (show heatR ⟨M, H, S, G⟩ k = (⟨M, H + k, S, G⟩, 0) by simp [heatR, HQ.out, hk])
      have e4 : IntKind.i64.wrap (H + k) = H + k := w64 (by omega) (by omega)
      go_enter Try.func44, Try.ntmps44
      go_wp2_with (go_at_call 63; refine (unhide HV _).mono ?_; rintro e w1 ⟨rfl, o, rfl⟩)
      all_goals refine bodyPost_ret (v := .tuple #[.agg #[.int .i64 M, .int .i64 (H + k), .int .i64 S, .int .i64 G], .int .i64 0]) (by simp [results, Try.results44, go_sem]) rfl ⟨by rw [HF.out], _, _, _, rfl⟩

def exR (s t : StrT) (k : Int) : StrT × StrT × Int :=
  if strOk s = false ∨ strOk t = false then (.zero, .zero, 1) else if k < 0 ∨ s.H < k ∨ 4000 * t.M - t.H < k then (.zero, .zero, 2) else (⟨s.M, s.H - k, s.S, s.G⟩, ⟨t.M, t.H + k, t.S, t.G⟩, 0)


theorem svalid_is (M H S G : Int) (b : Bool) (h : Hid (strOk ⟨M, H, S, G⟩ = b)) (w : World) :
    Calls Try.prog 63 #[.agg #[.int .i64 M, .int .i64 H, .int .i64 S, .int .i64 G]] w fun e w' => e = .returned (.bool b) ∧ ∃ o, w.alloc o = w' := by
  have := svalid_any ⟨M, H, S, G⟩ w
  rw [h.out] at this
  exact this

def ExW (s t : StrT) (k : Int) (w w' : World) : Prop :=
  (strOk s = false → ∃ o1 o2 o3 o4 o5, ((((w.alloc o1).alloc o2).alloc o3).alloc o4).alloc o5 = w')
  ∧ (strOk s = true → (exR s t k).2.2 ≠ 0 → ∃ o1 o2 o3 o4 o5 o6, (((((w.alloc o1).alloc o2).alloc o3).alloc o4).alloc o5).alloc o6 = w')
  ∧ ((exR s t k).2.2 = 0 → ∃ o1 o2 o3 o4 o5 o6, ((((((w.alloc o1).alloc o2).alloc o3).alloc o4).alloc o5).alloc o6).drew = w')

set_option maxHeartbeats 1600000 in
theorem exchange_ex (s t : StrT) (k : Int) (w : World) :
    Calls Try.prog 45 #[vStr s, vStr t, .int .i64 k] w fun e w' => e = .returned (.tuple #[vStr (exR s t k).1, vStr (exR s t k).2.1, .int .i64 (exR s t k).2.2]) ∧ ExW s t k w w' := by
  cases hq : strOk s with
  | false =>
    have HF := Lib.hid (show exR s t k = (StrT.zero, StrT.zero, 1) by simp [exR, hq])
    have HV := Lib.hid hq
    clear hq
    obtain ⟨M, H, S, G⟩ := s
    obtain ⟨M', H', S', G'⟩ := t
    go_enter Try.func45, Try.ntmps45
    go_wp2_with (go_at_call 63; refine (svalid_is _ _ _ _ _ (by first | exact HV | exact HT) _).mono ?_; rintro e w1 ⟨rfl, o, rfl⟩)
    all_goals refine bodyPost_ret (v := .tuple #[.agg #[.int .i64 0, .int .i64 0, .int .i64 0, .int .i64 0], .agg #[.int .i64 0, .int .i64 0, .int .i64 0, .int .i64 0], .int .i64 1]) (by simp [results, Try.results45, go_sem]) rfl ⟨by rw [HF.out]; rfl, ?_⟩
    all_goals exact ⟨fun _ => ⟨_, _, _, _, _, rfl⟩, fun h => absurd (HV.out.symm.trans h) (by decide), fun h => absurd h (by rw [HF.out]; decide)⟩
  | true =>
    cases hq' : strOk t with
    | false =>
      have HF := Lib.hid (show exR s t k = (StrT.zero, StrT.zero, 1) by simp [exR, hq'])
      have HV := Lib.hid hq
      have HT := Lib.hid hq'
      clear hq hq'
      obtain ⟨M, H, S, G⟩ := s
      obtain ⟨M', H', S', G'⟩ := t
      go_enter Try.func45, Try.ntmps45
      go_wp2_with (go_at_call 63; refine (svalid_is _ _ _ _ _ (by first | exact HV | exact HT) _).mono ?_; rintro e w1 ⟨rfl, o, rfl⟩)
      all_goals refine bodyPost_ret (v := .tuple #[.agg #[.int .i64 0, .int .i64 0, .int .i64 0, .int .i64 0], .agg #[.int .i64 0, .int .i64 0, .int .i64 0, .int .i64 0], .int .i64 1]) (by simp [results, Try.results45, go_sem]) rfl ⟨by rw [HF.out]; rfl, ?_⟩
      all_goals exact ⟨fun h => absurd (HV.out.symm.trans h) (by decide), fun _ _ => ⟨_, _, _, _, _, _, rfl⟩, fun h => absurd h (by rw [HF.out]; decide)⟩
    | true =>
      have B := strOk_iff.1 hq
      have B' := strOk_iff.1 hq'
      have HQ := Lib.hid (And.intro hq hq')
      have HV := Lib.hid hq
      have HT := Lib.hid hq'
      clear hq hq'
      obtain ⟨M, H, S, G⟩ := s
      obtain ⟨M', H', S', G'⟩ := t
      have b0 : 0 ≤ M := B.m0
      have b1 : M ≤ 1000000 := B.m1
      have b2 : 0 ≤ H := B.h0
      have b3 : H ≤ 4000 * M := B.h1
      have d0 : 0 ≤ M' := B'.m0
      have d1 : M' ≤ 1000000 := B'.m1
      have d2 : 0 ≤ H' := B'.h0
      have d3 : H' ≤ 4000 * M' := B'.h1
      have e2 : IntKind.i64.wrap (4000 * M') = 4000 * M' := w64 (by omega) (by omega)
      have e3 : IntKind.i64.wrap (4000 * M' - H') = 4000 * M' - H' := w64 (by omega) (by omega)
      clear B B'
      by_cases hk : k < 0 ∨ H < k ∨ 4000 * M' - H' < k
      · have HF := Lib.hid (show exR ⟨M, H, S, G⟩ ⟨M', H', S', G'⟩ k = (StrT.zero, StrT.zero, 2) by simp [exR, HQ.out, hk])
        go_enter Try.func45, Try.ntmps45
        go_wp2_with (go_at_call 63; refine (svalid_is _ _ _ _ _ (by first | exact HV | exact HT) _).mono ?_; rintro e w1 ⟨rfl, o, rfl⟩)
        all_goals refine bodyPost_ret (v := .tuple #[.agg #[.int .i64 0, .int .i64 0, .int .i64 0, .int .i64 0], .agg #[.int .i64 0, .int .i64 0, .int .i64 0, .int .i64 0], .int .i64 2]) (by simp [results, Try.results45, go_sem]) rfl ⟨by rw [HF.out]; rfl, ?_⟩
        all_goals exact ⟨fun h => absurd (HV.out.symm.trans h) (by decide), fun _ _ => ⟨_, _, _, _, _, _, rfl⟩, fun h => absurd h (by rw [HF.out]; decide)⟩
      · have HF := Lib.hid (show exR ⟨M, H, S, G⟩ ⟨M', H', S', G'⟩ k = (⟨M, H - k, S, G⟩, ⟨M', H' + k, S', G'⟩, 0) by simp [exR, HQ.out, hk])
        have e4 : IntKind.i64.wrap (H - k) = H - k := w64 (by omega) (by omega)
        have e5 : IntKind.i64.wrap (H' + k) = H' + k := w64 (by omega) (by omega)
        go_enter Try.func45, Try.ntmps45
        go_wp2_with (first
          | (go_at_call 63; refine (svalid_is _ _ _ _ _ (by first | exact HV | exact HT) _).mono ?_; rintro e w1 ⟨rfl, o, rfl⟩)
          | go_region)
        all_goals refine bodyPost_ret (v := .tuple #[.agg #[.int .i64 M, .int .i64 (H - k), .int .i64 S, .int .i64 G], .agg #[.int .i64 M', .int .i64 (H' + k), .int .i64 S', .int .i64 G'], .int .i64 0]) (by simp [results, Try.results45, go_sem]) rfl ⟨by rw [HF.out], ?_⟩
        all_goals exact ⟨fun h => absurd (HV.out.symm.trans h) (by decide), fun _ h => absurd (by rw [HF.out]) h, fun _ => ⟨_, _, _, _, _, _, rfl⟩⟩

theorem ExW.below {s t : StrT} {k : Int} {w w' : World} (h : ExW s t k w w') : Below w.heap.size w w' := by
  obtain ⟨h1, h2, h3⟩ := h
  cases hs : strOk s with
  | false => obtain ⟨o1, o2, o3, o4, o5, rfl⟩ := h1 hs; (repeat (first | exact Below.refl _ _ | assumption | (refine Below.drew ?_) | (refine Below.alloc ?_ (by first | exact Nat.le_refl _ | (simp; done) | (simp; omega)) _)))
  | true =>
    by_cases hz : (exR s t k).2.2 = 0
    · obtain ⟨o1, o2, o3, o4, o5, o6, rfl⟩ := h3 hz; (repeat (first | exact Below.refl _ _ | assumption | (refine Below.drew ?_) | (refine Below.alloc ?_ (by first | exact Nat.le_refl _ | (simp; done) | (simp; omega)) _)))
    · obtain ⟨o1, o2, o3, o4, o5, o6, rfl⟩ := h2 hs hz; (repeat (first | exact Below.refl _ _ | assumption | (refine Below.drew ?_) | (refine Below.alloc ?_ (by first | exact Nat.le_refl _ | (simp; done) | (simp; omega)) _)))
end Go.Proofs.Ytenpbiineblcjaa
