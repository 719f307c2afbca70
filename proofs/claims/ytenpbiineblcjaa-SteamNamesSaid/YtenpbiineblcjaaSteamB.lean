/-
  Contracts of package steam: has, at, valid, CheckTable, CheckStream, Flash. For every table, level and stream.
-/
import Derived.Test.YtenpbiineblcjaaSteamOf
namespace Go.Proofs.Ytenpbiineblcjaa
open Go.RowKit Go.Shelf

theorem has_any (A : Option Addr) (n c : Nat) (level : Int) (_hn : n ≤ 9223372036854775807) (w : World) :
    Calls Try.prog 62 #[.slice A n c, .int .i64 level] w fun e w' => e = .returned (.bool (inB level 0 (n - 1))) ∧ w = w' := by
  go_enter Try.func62, Try.ntmps62
  go_wp2_with (go_at_call 65; refine (within_any _ _ _ _).mono ?_; rintro e w' ⟨rfl, rfl⟩)
  go_ret
  exact ⟨rfl, rfl⟩

set_option maxHeartbeats 400000 in
theorem at_any (A : Option Addr) (c : Nat) (t : List RowT) (level : Int) (h0 : 0 ≤ level) (h1 : level ≤ t.length - 1) (_hn : t.length ≤ 9223372036854775807) (w : World) (hr : Rds eRow w w.heap.size A t) :
    Calls Try.prog 60 #[.slice A t.length c, .int .i64 level] w fun e w' => e = .returned (vRow (rowAt t level)) ∧ ∃ o, w.alloc o = w' := by
  have hx := rowAt_get h0 h1
  obtain ⟨k, rfl⟩ := Int.eq_ofNat_of_zero_le h0
  have hk : k < t.length := by omega
  rw [Int.toNat_natCast] at hx
  obtain ⟨b, o, rfl, hb, c0, c1, c2, c3, c4⟩ := rdsRow hr hx
  generalize rowAt t k = r at *
  clear hr hx h0
  obtain ⟨T, P, L, V, S⟩ := r
  dsimp only at *
  go_enter Try.func60, Try.ntmps60
  go_wp2
  refine bodyPost_ret (v := .agg #[.int .i64 T, .int .i64 P, .int .i64 L, .int .i64 V, .int .i64 S]) (by simp [results, Try.results60, go_sem]) rfl ⟨rfl, _, rfl⟩

set_option maxHeartbeats 1600000 in
theorem valid_any (A : Option Addr) (c : Nat) (t : List RowT) (hn : t.length ≤ 9223372036854775807) (hc : t.length ≤ c) (w : World) (hr : Rds eRow w w.heap.size A t) :
    Calls Try.prog 56 #[.slice A t.length c] w fun e w' => e = .returned (.bool (tabOk t)) ∧ Below w.heap.size w w' := by
  by_cases hl : 2 ≤ t.length ∧ t.length ≤ 20
  · obtain ⟨l2, l20⟩ := hl
    have hin : inB (t.length : Int) 2 20 = true := inB_of (by omega) (by omega)
    have eA : ∀ args w, (callFunc 81 args).run Try.prog w = .ok (.enter 81 args) w := enters_of Try.func81 (by kernel_rfl) rfl
    have hall := hide (allRow A c t (fun _ => True) rowOk 81 #[] eA w hr hn (fun _ _ => trivial) (fun W x _ _ => (alone_any x W).mono fun e w' ⟨he, o, hw⟩ => ⟨he, by subst hw; exact (Below.refl _ _).alloc (Nat.le_refl _) _⟩))
    obtain ⟨b, o, rfl, hb, hcells⟩ := hr (by omega)
    clear eA
    have hr' : Rds eRow w w.heap.size (some ⟨b, o, none⟩) t := fun _ => ⟨b, o, rfl, hb, hcells⟩
    clear hcells
    have hc1 : ¬ c = 1 := by omega
    cases hq : t.all rowOk with
    | false =>
      rw [hq] at hall
      have HF := Lib.hid (show tabOk t = false by simp [tabOk, hq])
      clear hq
      have HL := Lib.hid hin
      go_enter Try.func56, Try.ntmps56
      go_wp2_with (first | (go_at_call 65; refine (within_any _ _ _ _).mono ?_; rintro e w' ⟨rfl, rfl⟩) | (go_at_call 80; refine (unhide hall).mono ?_; rintro e w1 ⟨rfl, hb1⟩))
      go_ret
      exact ⟨ret_bool HF.out.symm, hb1⟩
    | true =>
      rw [hq] at hall
      have HQ := Lib.hid hq
      have HL := Lib.hid hin
      clear hq
      have hlen : ((t.length : Int) - 1) = ((t.length - 1 : Nat) : Int) := by omega
      go_enter Try.func56, Try.ntmps56
      go_wp2_with (first | (go_at_call 65; refine (within_any _ _ _ _).mono ?_; rintro e w' ⟨rfl, rfl⟩) | (go_at_call 80; refine (unhide hall).mono ?_; rintro e w1 ⟨rfl, hb1⟩))
      have hne : t.length - 1 + 1 = t.length := by omega
      go_loopg [18] (t.length - 1) (fun gg s18 wr => ∃ k : Nat, k ≤ t.length - 1 ∧ t.length - 1 - k ≤ gg ∧ s18 = .int .i64 k ∧ Aside (Below w.heap.size w wr) ∧ Aside (∀ j a b, j < k → t[j]? = some a → t[j + 1]? = some b → stepOk a b = true))
      case atStart => exact ⟨0, Nat.zero_le _, by omega, rfl, hb1, fun j a b hj => absurd hj (Nat.not_lt_zero _)⟩
      case round =>
        obtain ⟨k, hk, hg, rfl, BW, N⟩ := hrel
        by_cases hlt : k < t.length - 1
        · have hx : t[k]? = some (t[k]'(by omega)) := List.getElem?_eq_getElem (by omega)
          have hy : t[k + 1]? = some (t[k + 1]'(by omega)) := List.getElem?_eq_getElem (by omega)
          have hrw := hr'.below BW.out (Nat.le_refl _)
          obtain ⟨b', o', e1, _, c0, c1, c2, c3, c4⟩ := rdsRow hrw hx
          cases e1
          obtain ⟨b', o', e1, _, d0, d1, d2, d3, d4⟩ := rdsRow hrw hy
          cases e1
          have ha : ∀ i, o + (k + 1) * 5 + i = o + 5 + k * 5 + i := fun i => by omega
          have ha0 : o + (k + 1) * 5 = o + 5 + k * 5 := by omega
          rw [ha] at d1 d2 d3 d4
          rw [ha0] at d0
          clear hrw hr' ha ha0
          have hbw : b < wr.heap.size := Nat.lt_of_lt_of_le hb BW.out.size
          generalize t[k]'(by omega) = x at hx c0 c1 c2 c3 c4
          generalize t[k + 1]'(by omega) = y at hy d0 d1 d2 d3 d4
          have HX := Lib.hid hx
          have HY := Lib.hid hy
          clear hx hy hlen hne
          obtain ⟨T, P, L, V, S⟩ := x
          obtain ⟨T', P', L', V', S'⟩ := y
          dsimp only at c0 c1 c2 c3 c4 d0 d1 d2 d3 d4
          go_wp2
          all_goals first
            | (go_roundg (t.length - 1 - (k + 1))
               case measure => omega
               case rel =>
                 refine ⟨k + 1, by omega, by omega, by go_num, (BW.out.alloc BW.out.size _).alloc (by have := BW.out.size; simp; omega) _, (show Aside _ from fun j a b hj ha hb => ?_)⟩
                 by_cases e : j = k
                 · subst e
                   have h1 := HX.out
                   have h2 := HY.out
                   rw [ha] at h1
                   rw [hb] at h2
                   cases h1
                   cases h2
                   simp [stepOk]
                   omega
                 · exact N.out j a b (by omega) ha hb)
            | (go_ret
               refine ⟨ret_bool ?_, (BW.out.alloc BW.out.size _).alloc (by have := BW.out.size; simp; omega) _⟩
               have := steps_false HX.out HY.out (by simp [stepOk]; omega)
               simp [tabOk, this])
        · go_wp2
          go_ret
          refine ⟨ret_bool ?_, BW.out⟩
          have h1 : steps t = true := (steps_iff t).2 fun j a b ha hb => N.out j a b (by have := (List.getElem?_eq_some_iff.1 hb).1; omega) ha hb
          have h2 := HL.out
          have h3 := HQ.out
          simp [tabOk, h1, h2, h3]
  · have hin : inB (t.length : Int) 2 20 = false := inB_not (by omega)
    have HF := Lib.hid (show tabOk t = false by simp [tabOk, hin])
    go_enter Try.func56, Try.ntmps56
    go_wp2_with (go_at_call 65; refine (within_any _ _ _ _).mono ?_; rintro e w' ⟨rfl, rfl⟩)
    go_ret
    exact ⟨ret_bool HF.out.symm, Below.refl _ _⟩

theorem checkTable_any (A : Option Addr) (c : Nat) (t : List RowT) (hn : t.length ≤ 9223372036854775807) (hc : t.length ≤ c) (w : World) (hr : Rds eRow w w.heap.size A t) :
    Calls Try.prog 46 #[.slice A t.length c] w fun e w' => e = .returned (.int .i64 (if tabOk t then 0 else 1)) ∧ Below w.heap.size w w' := by
  have H := hide (valid_any A c t hn hc w hr)
  clear hr
  cases hq : tabOk t with
  | true =>
    rw [hq] at H
    go_enter Try.func46, Try.ntmps46
    go_wp2_with (go_at_call 56; refine (unhide H).mono ?_; rintro e w1 ⟨rfl, hb1⟩)
    go_ret
    exact ⟨rfl, hb1⟩
  | false =>
    rw [hq] at H
    go_enter Try.func46, Try.ntmps46
    go_wp2_with (go_at_call 56; refine (unhide H).mono ?_; rintro e w1 ⟨rfl, hb1⟩)
    go_ret
    exact ⟨rfl, hb1⟩

theorem checkStream_any (s : StrT) (w : World) :
    Calls Try.prog 29 #[vStr s] w fun e w' => e = .returned (.int .i64 (if strOk s then 0 else 1)) ∧ ∃ o1 o2, (w.alloc o1).alloc o2 = w' := by
  have H := hide (fun W => svalid_any s W)
  cases hq : strOk s with
  | true =>
    rw [hq] at H
    go_enter Try.func29, Try.ntmps29
    go_wp2_with (go_at_call 63; refine (unhide H _).mono ?_; rintro e w1 ⟨rfl, o, rfl⟩)
    go_ret
    exact ⟨rfl, _, _, rfl⟩
  | false =>
    rw [hq] at H
    go_enter Try.func29, Try.ntmps29
    go_wp2_with (go_at_call 63; refine (unhide H _).mono ?_; rintro e w1 ⟨rfl, o, rfl⟩)
    go_ret
    exact ⟨rfl, _, _, rfl⟩

theorem checked_any (A : Option Addr) (c : Nat) (l : List StrT) (hn : l.length ≤ 9223372036854775807) (w : World) (hr : Rds eStr w w.heap.size A l) :
    Calls Try.prog 57 #[.slice A l.length c] w fun e w' => e = .returned (.int .i64 (if 40 < l.length then 3 else if l.all strOk then 0 else 1)) ∧ Below w.heap.size w w' := by
  have eA : ∀ args w, (callFunc 63 args).run Try.prog w = .ok (.enter 63 args) w := enters_of Try.func63 (by kernel_rfl) rfl
  have hall := hide (allStr A c l (fun _ => True) strOk 63 #[] eA w hr hn (fun _ _ => trivial) (fun W x _ _ => (svalid_any x W).mono fun e w' ⟨he, o, hw⟩ => ⟨he, by subst hw; exact (Below.refl _ _).alloc (Nat.le_refl _) _⟩))
  clear eA hr
  by_cases h40 : 40 < l.length
  · rw [if_pos h40]
    go_enter Try.func57, Try.ntmps57
    go_wp2
    go_ret
    exact ⟨rfl, Below.refl _ _⟩
  · rw [if_neg h40]
    cases hq : l.all strOk with
    | true =>
      rw [hq] at hall
      have HQ := Lib.hid hq
      clear hq
      go_enter Try.func57, Try.ntmps57
      go_wp2_with (go_at_call 58; refine (unhide hall).mono ?_; rintro e w1 ⟨rfl, hb1⟩)
      go_ret
      exact ⟨rfl, hb1⟩
    | false =>
      rw [hq] at hall
      have HQ := Lib.hid hq
      clear hq
      go_enter Try.func57, Try.ntmps57
      go_wp2_with (go_at_call 58; refine (unhide hall).mono ?_; rintro e w1 ⟨rfl, hb1⟩)
      go_ret
      exact ⟨rfl, hb1⟩

end Go.Proofs.Ytenpbiineblcjaa
