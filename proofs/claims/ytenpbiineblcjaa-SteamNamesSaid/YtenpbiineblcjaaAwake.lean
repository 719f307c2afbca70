/-
  The chapter's examples hold: awake returns true, and leaves what lay as it lay. No conditions.
-/
import Derived.Test.YtenpbiineblcjaaShareW
import Derived.Test.YtenpbiineblcjaaDeep
namespace Go.Proofs.Ytenpbiineblcjaa
open Go.RowKit Go.Shelf

def threeL : List RowT := [⟨100, 101, 419, 2676, 150⟩, ⟨150, 476, 632, 2746, 300⟩, ⟨200, 1555, 852, 2793, 600⟩]
def hotS : StrT := ⟨1000, 852000, 250000, 50⟩

theorem rds_new {α : Type} (E : Enc α) (zs : List α) (t : TypeId) (w : World) : Rds E (w.alloc (.cells (zs.flatMap E.cells).toArray t)) (w.alloc (.cells (zs.flatMap E.cells).toArray t)).heap.size (some ⟨w.heap.size, 0, none⟩) zs := fun _ =>
  ⟨w.heap.size, 0, rfl, by simp, fun j x hx i u hu => by
    rw [cell_of_row _ w.heap.size _ _ _ _ (heap_alloc_new w _)]
    have := flat_get E zs j x hx i u hu
    simpa using this⟩

theorem three_any (w : World) : Calls Try.prog 54 #[] w fun e w' => e = .returned (.slice (some ⟨w.heap.size, 0, none⟩) 3 3) ∧ Rds eRow w' w'.heap.size (some ⟨w.heap.size, 0, none⟩) threeL ∧ Below w.heap.size w w' := by
  go_enter Try.func54, Try.ntmps54
  go_wp2
  go_ret
  exact ⟨rfl, rds_new eRow threeL _ w, (Below.refl _ _).alloc (Nat.le_refl _) _⟩
theorem hot_any (w : World) : Calls Try.prog 55 #[] w fun e w' => e = .returned (.agg #[.int .i64 1000, .int .i64 852000, .int .i64 250000, .int .i64 50]) ∧ ∃ o, w.alloc o = w' := by
  go_enter Try.func55, Try.ntmps55
  go_wp2
  refine bodyPost_ret (v := .agg #[.int .i64 1000, .int .i64 852000, .int .i64 250000, .int .i64 50]) (by simp [results, Try.results55, go_sem]) rfl ⟨rfl, _, rfl⟩

theorem ev_flash : flashR threeL 0 hotS = (⟨⟨191, 511116, 0, 50⟩, ⟨809, 340884, 121350, 0⟩, 1913, 128650⟩, 0) := by decide +kernel
theorem ev_deep : deepR threeL [hotS] = (1, 0) := by decide +kernel
theorem ev_sat : satR threeL 125 = ((577, 2), 0) := by decide +kernel
theorem ev_parts : (shareR ⟨10, 1001, 0, 0⟩ [1, 1, 1]).1 = [⟨4, 400, 0, 0⟩, ⟨3, 300, 0, 0⟩, ⟨3, 300, 0, 0⟩] := by decide +kernel
theorem ev_lost : (shareR ⟨10, 1001, 0, 0⟩ [1, 1, 1]).2.1.H = 1 ∧ (shareR ⟨10, 1001, 0, 0⟩ [1, 1, 1]).2.1.S = 0 ∧ (shareR ⟨10, 1001, 0, 0⟩ [1, 1, 1]).2.1.G = 0 ∧ (shareR ⟨10, 1001, 0, 0⟩ [1, 1, 1]).2.2 = 0 := by decide +kernel

set_option maxRecDepth 100000 in
set_option maxHeartbeats 1600000 in
theorem awake_any (w : World) : Calls Try.prog 17 #[] w fun e w' => e = .returned (.bool true) ∧ Below w.heap.size w w' := by
  go_enter Try.func17, Try.ntmps17
  go_wp2_with fail
  refine (three_any _).mono ?_
  rintro e w1 ⟨rfl, hr1, hb1⟩
  go_wp2_with fail
  refine (hot_any _).mono ?_
  rintro e w2 ⟨rfl, q2, rfl⟩
  have hf := hide (flash_any (some ⟨w.heap.size, 0, none⟩) 3 threeL 0 hotS (by decide) (by decide) (w1.alloc q2) (hr1.later ((Below.refl _ _).alloc (Nat.le_refl _) _)))
  rw [ev_flash] at hf
  have hB1 := hide (hb1.alloc hb1.size q2)
  clear hr1 hb1
  go_wp2_with fail
  refine (unhide hf).mono ?_
  rintro e w3 ⟨rfl, hb3⟩
  have hB3 := (unhide hB1).trans (hb3.mono (unhide hB1).size)
  clear hb3 hB1 hf
  go_wp2_with fail
  obtain ⟨W4, hW4⟩ : ∃ W4, W4 = (w3.alloc (.cells #[.int .i64 191, .int .i64 511116, .int .i64 0, .int .i64 50, .int .i64 809, .int .i64 340884, .int .i64 121350, .int .i64 0, .int .i64 1913, .int .i64 128650] 44)).alloc (.cells #[.int .i64 1, .int .i64 1, .int .i64 1] 3) := ⟨_, rfl⟩
  have hp4 : RowIs W4 w3.heap.size #[.int .i64 191, .int .i64 511116, .int .i64 0, .int .i64 50, .int .i64 809, .int .i64 340884, .int .i64 121350, .int .i64 0, .int .i64 1913, .int .i64 128650] := by rw [hW4]; exact (RowIs.new _ _ _).alloc _
  have hr4 : Rds eInt W4 W4.heap.size (some ⟨w3.heap.size + 1, 0, none⟩) [1, 1, 1] := by
    rw [hW4]
    have := rds_new eInt [1, 1, 1] 3 (w3.alloc (.cells #[.int .i64 191, .int .i64 511116, .int .i64 0, .int .i64 50, .int .i64 809, .int .i64 340884, .int .i64 121350, .int .i64 0, .int .i64 1913, .int .i64 128650] 44))
    simpa [eInt] using this
  have hB4 : Below w.heap.size w W4 := by rw [hW4]; exact (hB3.alloc hB3.size _).alloc (by have := hB3.size; simp; omega) _
  have hs := hide (share_any ⟨10, 1001, 0, 0⟩ (some ⟨w3.heap.size + 1, 0, none⟩) 3 [1, 1, 1] (by decide) W4 hr4)
  rw [ev_lost.1, ev_lost.2.1, ev_lost.2.2.1, ev_lost.2.2.2, ev_parts] at hs
  rw [← hW4]
  have hPz : w.heap.size ≤ w3.heap.size := hB3.size
  clear hW4 hr4 hB3
  refine (unhide hs).mono ?_
  rintro e w5 ⟨v5, rfl, ⟨A5, c5, rfl, hc5, hr5, _⟩, hb5⟩
  have hp5 := hp4.below hb5 hp4.lt
  have hB5 := hB4.trans (hb5.mono hB4.size)
  have H5 := hide (And.intro hp5 (And.intro hr5 hB5))
  clear hp4 hB4 hb5 hp5 hr5 hB5 hs
  go_wp2_with fail
  obtain ⟨hp5, hr5, hB5⟩ := unhide H5
  obtain ⟨W6, hW6⟩ : ∃ W6, W6 = w5.alloc (.cells #[.int .i64 1, .int .i64 0, .int .i64 0] 54) := ⟨_, rfl⟩
  obtain ⟨LB, hLB⟩ : ∃ LB, LB = w5.heap.size := ⟨_, rfl⟩
  have hp6 : RowIs W6 w3.heap.size #[.int .i64 191, .int .i64 511116, .int .i64 0, .int .i64 50, .int .i64 809, .int .i64 340884, .int .i64 121350, .int .i64 0, .int .i64 1913, .int .i64 128650] := by rw [hW6]; exact hp5.alloc _
  have hl6 : RowIs W6 LB #[.int .i64 1, .int .i64 0, .int .i64 0] := by rw [hW6, hLB]; exact RowIs.new _ _ _
  have h56 : Below w5.heap.size w5 W6 := by rw [hW6]; exact (Below.refl _ _).alloc (Nat.le_refl _) _
  have hr6 := hr5.later h56
  have hB6 := hB5.trans (h56.mono hB5.size)
  rw [← hW6, ← hLB]
  clear hW6 hLB h56 hp5 hr5 hB5 H5
  refine (three_any _).mono ?_
  rintro e w7 ⟨rfl, ht7, hb7⟩
  have hp7 := hp6.below hb7 hp6.lt
  have hl7 := hl6.below hb7 hl6.lt
  have hr7 := hr6.later hb7
  have hB7 := hB6.trans (hb7.mono hB6.size)
  have H7 := hide (And.intro hp7 (And.intro hl7 (And.intro hr7 (And.intro hB7 ht7))))
  clear hp6 hl6 hr6 hB6 hp7 hl7 hr7 hB7 ht7 hb7
  go_wp2_with fail
  refine (hot_any _).mono ?_
  rintro e w8 ⟨rfl, q8, rfl⟩
  go_wp2_with fail
  obtain ⟨hp7, hl7, hr7, hB7, ht7⟩ := unhide H7
  obtain ⟨W9, hW9⟩ : ∃ W9, W9 = (w7.alloc q8).alloc (.cells #[.int .i64 1000, .int .i64 852000, .int .i64 250000, .int .i64 50] 42) := ⟨_, rfl⟩
  have h79 : Below w7.heap.size w7 W9 := by rw [hW9]; exact ((Below.refl _ _).alloc (Nat.le_refl _) _).alloc (by simp) _
  have hh9 : Rds eStr W9 W9.heap.size (some ⟨w7.heap.size + 1, 0, none⟩) [hotS] := by
    rw [hW9]
    have := rds_new eStr [hotS] 42 (w7.alloc q8)
    simpa [eStr, hotS] using this
  have hd := hide (deepest_any (some ⟨W6.heap.size, 0, none⟩) 3 threeL (some ⟨w7.heap.size + 1, 0, none⟩) 1 [hotS] (by decide) (by decide) (by decide) W9 (ht7.later h79) hh9)
  rw [ev_deep] at hd
  have hp9 := hp7.below h79 hp7.lt
  have hl9 := hl7.below h79 hl7.lt
  have hr9 := hr7.later h79
  have hB9 := hB7.trans (h79.mono hB7.size)
  rw [← hW9]
  clear hp7 hl7 hr7 hB7 ht7 hh9 h79 hW9 H7
  refine (unhide hd).mono ?_
  rintro e w10 ⟨rfl, hb10⟩
  have hp10 := hp9.below hb10 hp9.lt
  have hl10 := hl9.below hb10 hl9.lt
  have hr10 := hr9.later hb10
  have hB10 := hB9.trans (hb10.mono hB9.size)
  have H10 := hide (And.intro hp10 (And.intro hl10 (And.intro hr10 hB10)))
  clear hp9 hl9 hr9 hB9 hp10 hl10 hr10 hB10 hb10 hd
  go_wp2_with fail
  refine (three_any _).mono ?_
  rintro e w11 ⟨rfl, ht11, hb11⟩
  have hsat := hide (saturation_any (some ⟨w10.heap.size, 0, none⟩) 3 threeL 125 (by decide) (by decide) w11 ht11)
  rw [ev_sat] at hsat
  obtain ⟨hp10, hl10, hr10, hB10⟩ := unhide H10
  have hp11 := hp10.below hb11 hp10.lt
  have hl11 := hl10.below hb11 hl10.lt
  have hr11 := hr10.later hb11
  have hB11 := hB10.trans (hb11.mono hB10.size)
  have H11 := hide (And.intro hp11 (And.intro hl11 (And.intro hr11 hB11)))
  clear ht11 hb11 hp10 hl10 hr10 hB10 hp11 hl11 hr11 hB11 H10
  go_wp2_with fail
  refine (unhide hsat).mono ?_
  rintro e w12 ⟨rfl, hb12⟩
  obtain ⟨hp11, hl11, hr11, hB11⟩ := unhide H11
  have hp12 := hp11.below hb12 hp11.lt
  have hl12 := hl11.below hb12 hl11.lt
  have hr12 := hr11.later hb12
  have hB12 := hB11.trans (hb12.mono hB11.size)
  obtain ⟨bp, op, rfl, hbp, d0, d1, d2, d3⟩ := rdsStr (k := 0) (r := ⟨4, 400, 0, 0⟩) hr12 rfl
  have cp : ∀ j, w12.cell? ⟨w3.heap.size, j, none⟩ = (#[.int .i64 191, .int .i64 511116, .int .i64 0, .int .i64 50, .int .i64 809, .int .i64 340884, .int .i64 121350, .int .i64 0, .int .i64 1913, .int .i64 128650] : Array Value)[j]? := fun j => by
    obtain ⟨t, h⟩ := hp12
    exact cell_of_row w12 _ j _ _ _ h
  have cl : ∀ j, w12.cell? ⟨LB, j, none⟩ = (#[.int .i64 1, .int .i64 0, .int .i64 0] : Array Value)[j]? := fun j => by
    obtain ⟨t, h⟩ := hl12
    exact cell_of_row w12 _ j _ _ _ h
  have zp := hp12.lt
  have zl := hl12.lt
  have d0' : w12.cell? ⟨bp, op, none⟩ = some (.int .i64 4) := by simpa using d0
  have d1' : w12.cell? ⟨bp, op + 1, none⟩ = some (.int .i64 400) := by simpa using d1
  have d2' : w12.cell? ⟨bp, op + 2, none⟩ = some (.int .i64 0) := by simpa using d2
  have d3' : w12.cell? ⟨bp, op + 3, none⟩ = some (.int .i64 0) := by simpa using d3
  have HB12 := hide hB12
  clear d0 d1 d2 d3 hp11 hl11 hr11 hB11 hp12 hl12 hr12 hB12 hb12 H11 hsat
  go_wp2_with fail
  go_ret
  exact ⟨rfl, (unhide HB12).alloc (unhide HB12).size _⟩
end Go.Proofs.Ytenpbiineblcjaa
