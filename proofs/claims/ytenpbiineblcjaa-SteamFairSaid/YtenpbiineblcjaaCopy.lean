/-
  A copy of a list of ints, append to nil: a new slice that reads as the given one. Up to 10000000000000 numbers. And contracts of plus and RightWeights.
-/
import Derived.Test.YtenpbiineblcjaaLBounds
import Derived.Test.YtenpbiineblcjaaRankP
import Derived.Maps.AppendAt
import Derived.Deep.AppendLies
namespace Go.Proofs.Ytenpbiineblcjaa
open Go.RowKit Go.Shelf

theorem run_append_nil (t ty e : TypeId) (i : TypeInfo) (P : Program) (w : World) (ht : P.underlying t = some (.slice e)) (hi : P.info? e = some i) (c : Nat) : (Builtin.append_ #[t, t] ty #[.slice none 0 0, .slice none 0 c]).run P w = .ok (.slice none 0 0) w := by
  simp [Builtin.append_, run_underlying ht, sizeOf, typeInfo, hi, Builtin.lenOf, Builtin.firstCells]

theorem flat_ints (zs : List Int) : zs.flatMap eInt.cells = zs.map (Value.int .i64) := by
  induction zs with
  | nil => rfl
  | cons x l ih => rw [List.flatMap_cons, ih]; rfl

theorem run_copy_ints (ty : TypeId) (w : World) (A : Option Addr) (zs : List Int) (c : Nat) (hr : Rds eInt w w.heap.size A zs) (hl : zs.length ≤ 10000000000000) :
    ∃ v' w', (Builtin.append_ #[51, 51] ty #[.slice none 0 0, .slice A zs.length c]).run Try.prog w = .ok v' w' ∧ FreshOf eInt w.heap.size w' v' zs ∧ Below w.heap.size w w' := by
  obtain ⟨i0, hi, hz0, hz1, hz2⟩ := info_parts int_info
  have hfl := flat_ints zs
  cases A with
  | none =>
    have : zs = [] := by
      cases zs with
      | nil => rfl
      | cons x l =>
        obtain ⟨b, o, h, _⟩ := hr (by simp)
        cases h
    subst this
    exact ⟨_, w, run_append_nil _ _ _ _ _ _ Try.underlying51 hi c, ⟨none, 0, rfl, Nat.le_refl _, Rds.nil _ _ _ _, fun b o e => by cases e⟩, Below.refl _ _⟩
  | some ad =>
    have hcells : ∀ j u, (zs.map (Value.int .i64))[j]? = some u → w.cell? (ad.add j) = some u := fun j u hu => by
      rw [List.getElem?_map] at hu
      cases hx : zs[j]? with
      | none => rw [hx] at hu; cases hu
      | some x =>
        rw [hx] at hu
        simp only [Option.map_some, Option.some.injEq] at hu
        subst hu
        obtain ⟨b, o, h, _, hc⟩ := hr (by have := (List.getElem?_eq_some_iff.1 hx).1; omega)
        have h2 := Option.some.inj h
        subst h2
        have := hc j x hx 0 (.int .i64 x) rfl
        rw [Addr.add_lit]
        simpa [eInt] using this
    obtain ⟨v', w', hrun, hown, hgrow, _, _⟩ := run_append_own_at (P := Try.prog) w w.heap.size 51 ty 3 i0 (.int .i64 0) 1 8 Try.underlying51 hi hz0 hz1 hz2 rfl (by decide) (.slice none 0 0) 0 [] (World.ownsRow_nil _ _ _ _) ad zs.length c (zs.map (Value.int .i64)) (by simp) hcells (by simp [Value.oneCell']) (by unfold maxLen; omega) (by omega) (Nat.le_refl _)
    refine ⟨v', w', hrun, fresh_of_own (e := 3) eInt ?_, ?_⟩
    · rw [hfl, show eInt.size = 1 from rfl]
      simpa using hown
    · exact (Below.refl _ _).grown hgrow (Nat.le_refl _) (fun j hj => by cases hj)

theorem wp_copy_ints {o : Oper} {a : Act} {K : Act → World → Prop} {Q : Exit → Act → World → Prop} {w : World} {s x : Operand}
    (ho : o.op = .call { callee := .builtin .append, args := #[s, x], argTypes := #[51, 51] }) (hs : a.eval s = .slice none 0 0)
    {A : Option Addr} {zs : List Int} {c : Nat} (hx : a.eval x = .slice A zs.length c) (hr : Rds eInt w w.heap.size A zs) (hl : zs.length ≤ 10000000000000)
    (h : ∀ v' w', FreshOf eInt w.heap.size w' v' zs → Below w.heap.size w w' → K (a.put o.dst v') w') : o.wp Try.prog a w K Q := by
  obtain ⟨v', w', hrun, h2, h3⟩ := run_copy_ints o.type w A zs c hr hl
  unfold Oper.wp execOp
  simp only [ho, resolve, invoke, builtin, Sem.run_bind, Sem.run_pure, Result.andThen_ok, List.map_toArray, List.map_cons, List.map_nil, hs, hx, hrun]
  exact h v' w' h2 h3

theorem wpList_copy_ints {ops : Array Oper} {rest : List Oper} {o : Oper} {a : Act} {Q : Exit → Act → World → Prop} {w : World} (hgd : o.guard = none) {s x : Operand}
    (ho : o.op = .call { callee := .builtin .append, args := #[s, x], argTypes := #[51, 51] }) (hs : a.eval s = .slice none 0 0)
    {A : Option Addr} {zs : List Int} {c : Nat} (hx : a.eval x = .slice A zs.length c) (hr : Rds eInt w w.heap.size A zs) (hl : zs.length ≤ 10000000000000)
    (h : ∀ v' w', FreshOf eInt w.heap.size w' v' zs → Below w.heap.size w w' → wpList Try.prog ops Q rest (a.put o.dst v') w') : wpList Try.prog ops Q (o :: rest) a w :=
  wpList_plain hgd fun _ hK => wp_copy_ints ho hs hx hr hl fun v' w' h2 h3 => hK _ _ (h v' w' h2 h3)

theorem plus_is (M H S G M' H' S' G' : Int) (w : World) (h : -1000000000000000000 ≤ M ∧ M ≤ 1000000000000000000 ∧ -1000000000000000000 ≤ H ∧ H ≤ 1000000000000000000 ∧ -1000000000000000000 ≤ S ∧ S ≤ 1000000000000000000 ∧ -1000000000000000000 ≤ G ∧ G ≤ 1000000000000000000)
    (h' : -1000000000000000000 ≤ M' ∧ M' ≤ 1000000000000000000 ∧ -1000000000000000000 ≤ H' ∧ H' ≤ 1000000000000000000 ∧ -1000000000000000000 ≤ S' ∧ S' ≤ 1000000000000000000 ∧ -1000000000000000000 ≤ G' ∧ G' ≤ 1000000000000000000) :
    Calls Try.prog 30 #[.agg #[.int .i64 M, .int .i64 H, .int .i64 S, .int .i64 G], .agg #[.int .i64 M', .int .i64 H', .int .i64 S', .int .i64 G']] w fun e w' => e = .returned (.agg #[.int .i64 (M + M'), .int .i64 (H + H'), .int .i64 (S + S'), .int .i64 (G + G')]) ∧ Below w.heap.size w w' := by
  obtain ⟨_, _, _, _, _, _, _, _⟩ := h
  obtain ⟨_, _, _, _, _, _, _, _⟩ := h'
  go_enter Try.func30, Try.ntmps30
  go_wp2
  refine bodyPost_ret (v := .agg #[.int .i64 (M + M'), .int .i64 (H + H'), .int .i64 (S + S'), .int .i64 (G + G')]) (by simp [results, Try.results30, go_sem]) rfl ⟨rfl, ?_⟩
  (repeat (first | exact Below.refl _ _ | assumption | (refine Below.drew ?_) | (refine Below.alloc ?_ (by first | exact Nat.le_refl _ | (simp; done) | (simp; omega)) _)))

theorem any_sum : ∀ (t : List Int), (∀ x ∈ t, 0 ≤ x) → t.any (fun w => decide (0 < w)) = decide (0 < sumI t)
  | [], _ => by simp [sumI]
  | x :: l, h => by
    have h1 := any_sum l (fun y hy => h y (List.mem_cons_of_mem _ hy))
    have h2 := h x List.mem_cons_self
    have h3 := sumI_nonneg (l := l) (fun y hy => h y (List.mem_cons_of_mem _ hy))
    rw [List.any_cons, h1, sumI]
    by_cases hx : 0 < x
    · have : 0 < x + sumI l := by omega
      simp [hx, this]
    · have : x = 0 := by omega
      subst this
      simp

set_option maxHeartbeats 1600000 in
theorem rightWts_short (A : Option Addr) (c : Nat) (t : List Int) (hn : t.length ≤ 9000000000000000) (w : World) (hr : Rds eInt w w.heap.size A t) :
    Calls Try.prog 27 #[.slice A t.length c] w fun e w' => e = .returned (.bool (wtsOk t)) ∧ w = w' := by
  have HR := hide hr
  clear hr
  go_enter Try.func27, Try.ntmps27
  go_wp2
  go_loopg [3, 4] t.length (fun gg s3 s4 wr => ∃ (k : Nat) (q : Int), k ≤ t.length ∧ t.length - k ≤ gg ∧ s4 = .int .i64 k ∧ s3 = .int .i64 q ∧ 0 ≤ q ∧ q ≤ 1000 * k ∧ wr = w ∧ Aside (q = sumI (t.take k)) ∧ Aside (∀ j x, j < k → t[j]? = some x → inB x 0 1000 = true))
  case atStart => exact ⟨0, 0, Nat.zero_le _, by omega, rfl, rfl, Int.le_refl 0, by omega, rfl, rfl, fun j x hj => absurd hj (Nat.not_lt_zero _)⟩
  case round =>
    obtain ⟨k, q, hk, hg, rfl, rfl, q0, q1, rfl, SQ, N⟩ := hrel
    by_cases hlt : k < t.length
    · have hx : t[k]? = some (t[k]'hlt) := List.getElem?_eq_getElem _
      generalize t[k]'hlt = x at hx
      have HX := hide hx
      obtain ⟨b, o, rfl, hb, d0⟩ := rdsInt (unhide HR) hx
      have hkn : (k : Int) < t.length := by omega
      have hk0 : (0 : Int) ≤ (k : Int) := by omega
      cases hq : inB x 0 1000 with
      | true =>
        obtain ⟨x0, x1⟩ := inB_iff.1 hq
        have HQ := Lib.hid hq
        clear hx
        go_wp2_with (go_at_call 31; refine (refIn_any _ _ _ _).mono ?_; rintro e w1 ⟨rfl, rfl⟩)
        go_roundg (t.length - (k + 1))
        case measure => omega
        case rel =>
          refine ⟨k + 1, q + x, by omega, by omega, by go_num, rfl, by omega, by omega, rfl, (show Aside _ from ?_), (show Aside _ from fun j y hj hy => ?_)⟩
          · rw [List.take_add_one, unhide HX]
            rw [SQ.out]
            exact (sumI_snoc _ _).symm
          · by_cases e : j = k
            · subst e
              have h1 := unhide HX
              rw [hy] at h1
              cases h1
              exact HQ.out
            · exact N.out j y (by omega) hy
      | false =>
        have HA := Lib.hid (show wtsOk t = false by
          have : t.all (fun w => inB w 0 1000) = false := by
            rw [List.all_eq_false]
            exact ⟨x, List.mem_of_getElem? hx, by simp [hq]⟩
          simp [wtsOk, this])
        clear hx
        go_wp2_with (go_at_call 31; refine (refIn_any _ _ _ _).mono ?_; rintro e w1 ⟨rfl, rfl⟩)
        go_ret
        exact ⟨ret_bool HA.out.symm, rfl⟩
    · obtain rfl : k = t.length := by omega
      have hall : t.all (fun w => inB w 0 1000) = true := by
        rw [List.all_eq_true]
        intro x hx
        obtain ⟨j, hj, rfl⟩ := List.getElem_of_mem hx
        exact N.out j _ hj (List.getElem?_eq_getElem _)
      have hs := SQ.out
      rw [List.take_length] at hs
      have hany : t.any (fun w => decide (0 < w)) = decide (0 < q) := by
        rw [hs]
        have hnn : ∀ x ∈ t, 0 ≤ x := fun x hx => (inB_iff.1 (List.all_eq_true.1 hall x hx)).1
        exact any_sum t hnn
      have HA := Lib.hid (show wtsOk t = (decide (t.length ≤ 20) && decide (0 < q)) by simp [wtsOk, hall, hany])
      clear hs hall hany
      go_wp2_with fail
      all_goals
        go_ret
        exact ⟨ret_bool (by rw [HA.out]; first | (simp [*]; done) | (simp [*]; omega) | (simp; omega)), rfl⟩

set_option maxHeartbeats 1600000 in
theorem rightWts_long (A : Option Addr) (c : Nat) (t : List Int) (hn : t.length ≤ 9223372036854775807) (hl : 20 < t.length) (w : World) (hr : Rds eInt w w.heap.size A t) :
    Calls Try.prog 27 #[.slice A t.length c] w fun e w' => e = .returned (.bool (wtsOk t)) ∧ w = w' := by
  have HR := hide hr
  have HA := Lib.hid (show wtsOk t = false by
    have : ¬ t.length ≤ 20 := by omega
    simp [wtsOk, this])
  clear hr
  go_enter Try.func27, Try.ntmps27
  go_wp2
  go_loopg [3, 4] t.length (fun gg s3 s4 wr => ∃ (k : Nat) (q : Int), k ≤ t.length ∧ t.length - k ≤ gg ∧ s4 = .int .i64 k ∧ s3 = .int .i64 q ∧ wr = w)
  case atStart => exact ⟨0, 0, Nat.zero_le _, by omega, rfl, rfl, rfl⟩
  case round =>
    obtain ⟨k, q, hk, hg, rfl, rfl, rfl⟩ := hrel
    by_cases hlt : k < t.length
    · have hx : t[k]? = some (t[k]'hlt) := List.getElem?_eq_getElem _
      generalize t[k]'hlt = x at hx
      obtain ⟨b, o, rfl, hb, d0⟩ := rdsInt (unhide HR) hx
      have hkn : (k : Int) < t.length := by omega
      have hk0 : (0 : Int) ≤ (k : Int) := by omega
      clear hx
      cases hq : inB x 0 1000 with
      | true =>
        go_wp2_with (go_at_call 31; refine (refIn_any _ _ _ _).mono ?_; rintro e w1 ⟨rfl, rfl⟩)
        go_roundg (t.length - (k + 1))
        case measure => omega
        case rel => exact ⟨k + 1, _, by omega, by omega, by go_num, rfl, rfl⟩
      | false =>
        go_wp2_with (go_at_call 31; refine (refIn_any _ _ _ _).mono ?_; rintro e w1 ⟨rfl, rfl⟩)
        go_ret
        exact ⟨ret_bool HA.out.symm, rfl⟩
    · obtain rfl : k = t.length := by omega
      have hl' : (20 : Int) < t.length := by omega
      go_wp2_with fail
      go_ret
      exact ⟨ret_bool HA.out.symm, rfl⟩

theorem rightWts_any (A : Option Addr) (c : Nat) (t : List Int) (hn : t.length ≤ 9223372036854775807) (w : World) (hr : Rds eInt w w.heap.size A t) :
    Calls Try.prog 27 #[.slice A t.length c] w fun e w' => e = .returned (.bool (wtsOk t)) ∧ w = w' := by
  by_cases h : t.length ≤ 20
  · exact rightWts_short A c t (by omega) w hr
  · exact rightWts_long A c t hn (by omega) w hr
end Go.Proofs.Ytenpbiineblcjaa
