/-
  Contracts of sum, its function literal, and numbers: streams added up. At streams whose numbers stay below 2^60.
-/
import Derived.Test.YtenpbiineblcjaaMasses
import Derived.Deep.RegionWith
import Derived.Deep.DeepCutAuto
namespace Go.Proofs.Ytenpbiineblcjaa
open Go.RowKit Go.Shelf

set_option maxHeartbeats 400000 in
theorem numbers_any (b : Nat) (w : World) :
    Calls Try.prog 90 #[.pointer (some ⟨b, 0, none⟩)] w fun e w' => e = .returned (.agg #[.pointer (some ⟨b, 0, none⟩), .pointer (some ⟨b, 1, none⟩), .pointer (some ⟨b, 2, none⟩), .pointer (some ⟨b, 3, none⟩)]) ∧ ∃ q, (w.alloc q).drew = w' := by
  go_enter Try.func90, Try.ntmps90
  go_wp2_with fail
  go_region_held3 (fun _ => True) (trivial) (fail)
  go_wp2_with fail
  refine bodyPost_ret (v := .agg #[.pointer (some ⟨b, 0, none⟩), .pointer (some ⟨b, 1, none⟩), .pointer (some ⟨b, 2, none⟩), .pointer (some ⟨b, 3, none⟩)]) (by simp [results, Try.results90, go_sem]) rfl ⟨rfl, _, rfl⟩

def cStr (s : StrT) : Array Value := #[.int .i64 s.M, .int .i64 s.H, .int .i64 s.S, .int .i64 s.G]
def addStr (a s : StrT) : StrT := ⟨a.M + s.M, a.H + s.H, a.S + s.S, a.G + s.G⟩
/-- Numbers from 0 to c. -/
def StrIn (c : Int) (s : StrT) : Prop := 0 ≤ s.M ∧ s.M ≤ c ∧ 0 ≤ s.H ∧ s.H ≤ c ∧ 0 ≤ s.S ∧ s.S ≤ c ∧ 0 ≤ s.G ∧ s.G ≤ c

theorem alloc_setRow {w : World} {g : Nat} (hg : g < w.heap.size) {cs : Array Value} {o : Obj} : (w.setRow g cs).alloc o = (w.alloc o).setRow g cs := by
  unfold World.setRow World.alloc
  congr 1
  apply Array.ext
  · simp
  · intro k h1 h2
    simp only [Array.getElem_push, Array.getElem_modify, Array.size_modify]
    by_cases hk : k < w.heap.size
    · simp [hk]
    · have : ¬ g = k := by omega
      simp [hk, this]

/-- The first k numbers are added up. -/
def mixS (k : Nat) (M H S G M' H' S' G' : Int) : Array Value :=
  match k with
  | 0 => #[.int .i64 M', .int .i64 H', .int .i64 S', .int .i64 G']
  | 1 => #[.int .i64 (M' + M), .int .i64 H', .int .i64 S', .int .i64 G']
  | 2 => #[.int .i64 (M' + M), .int .i64 (H' + H), .int .i64 S', .int .i64 G']
  | 3 => #[.int .i64 (M' + M), .int .i64 (H' + H), .int .i64 (S' + S), .int .i64 G']
  | _ => #[.int .i64 (M' + M), .int .i64 (H' + H), .int .i64 (S' + S), .int .i64 (G' + G)]

set_option maxHeartbeats 3200000 in
theorem add_any (Bo : Nat) (u : World) (hu : IsRow u Bo) (a s : StrT) (ha : StrIn 1000000000000000 a) (hs : StrIn 1000000000000000 s) :
    Calls Try.prog 89 #[vStr s, .pointer (some ⟨Bo, 0, none⟩)] (u.setRow Bo (cStr a)) fun e w' => e = .returned (.tuple #[]) ∧ ∃ u', w' = u'.setRow Bo (cStr (addStr a s)) ∧ IsRow u' Bo ∧ Below u.heap.size u u' := by
  obtain ⟨M, H, S, G⟩ := s
  obtain ⟨M', H', S', G'⟩ := a
  obtain ⟨a1, a2, a3, a4, a5, a6, a7, a8⟩ := ha
  obtain ⟨b1, b2, b3, b4, b5, b6, b7, b8⟩ := hs
  dsimp only at *
  have hw0 : IntKind.i64.wrap (M' + M) = M' + M := by rw [IntKind.wrap_i64]; omega
  have hw1 : IntKind.i64.wrap (H' + H) = H' + H := by rw [IntKind.wrap_i64]; omega
  have hw2 : IntKind.i64.wrap (S' + S) = S' + S := by rw [IntKind.wrap_i64]; omega
  have hw3 : IntKind.i64.wrap (G' + G) = G' + G := by rw [IntKind.wrap_i64]; omega
  clear a1 a2 a3 a4 a5 a6 a7 a8 b1 b2 b3 b4 b5 b6 b7 b8
  have z := hu.lt
  have zn : Bo ≠ u.heap.size := by omega
  have z1 : Bo < u.heap.size + 1 := by omega
  have z2 : Bo < u.heap.size + 1 + 1 := by omega
  have z3 : Bo < u.heap.size + 1 + 1 + 1 := by omega
  have z4 : Bo < u.heap.size + 1 + 1 + 1 + 1 := by omega
  have z5 : Bo < u.heap.size + 1 + 1 + 1 + 1 + 1 := by omega
  have z6 : Bo < u.heap.size + 1 + 1 + 1 + 1 + 1 + 1 := by omega
  have z7 : Bo < u.heap.size + 1 + 1 + 1 + 1 + 1 + 1 + 1 := by omega
  have HE : Hid (cStr (addStr ⟨M', H', S', G'⟩ ⟨M, H, S, G⟩) = #[.int .i64 (M' + M), .int .i64 (H' + H), .int .i64 (S' + S), .int .i64 (G' + G)]) := hide rfl
  show Calls Try.prog 89 #[.agg #[.int .i64 M, .int .i64 H, .int .i64 S, .int .i64 G], .pointer (some ⟨Bo, 0, none⟩)] (u.setRow Bo #[.int .i64 M', .int .i64 H', .int .i64 S', .int .i64 G']) fun e w' => e = .returned (.tuple #[]) ∧ ∃ u', w' = u'.setRow Bo (cStr (addStr ⟨M', H', S', G'⟩ ⟨M, H, S, G⟩)) ∧ IsRow u' Bo ∧ Below u.heap.size u u'
  have i0 : ∀ W, (Instr.index 142 (.agg #[.pointer (some ⟨u.heap.size, 0, none⟩), .pointer (some ⟨u.heap.size, 1, none⟩), .pointer (some ⟨u.heap.size, 2, none⟩), .pointer (some ⟨u.heap.size, 3, none⟩)]) (.int .i64 0)).run Try.prog W = .ok (.pointer (some ⟨u.heap.size, 0, none⟩)) W := fun _ => by kernel_rfl
  have i1 : ∀ W, (Instr.index 142 (.agg #[.pointer (some ⟨u.heap.size, 0, none⟩), .pointer (some ⟨u.heap.size, 1, none⟩), .pointer (some ⟨u.heap.size, 2, none⟩), .pointer (some ⟨u.heap.size, 3, none⟩)]) (.int .i64 1)).run Try.prog W = .ok (.pointer (some ⟨u.heap.size, 1, none⟩)) W := fun _ => by kernel_rfl
  have i2 : ∀ W, (Instr.index 142 (.agg #[.pointer (some ⟨u.heap.size, 0, none⟩), .pointer (some ⟨u.heap.size, 1, none⟩), .pointer (some ⟨u.heap.size, 2, none⟩), .pointer (some ⟨u.heap.size, 3, none⟩)]) (.int .i64 2)).run Try.prog W = .ok (.pointer (some ⟨u.heap.size, 2, none⟩)) W := fun _ => by kernel_rfl
  have i3 : ∀ W, (Instr.index 142 (.agg #[.pointer (some ⟨u.heap.size, 0, none⟩), .pointer (some ⟨u.heap.size, 1, none⟩), .pointer (some ⟨u.heap.size, 2, none⟩), .pointer (some ⟨u.heap.size, 3, none⟩)]) (.int .i64 3)).run Try.prog W = .ok (.pointer (some ⟨u.heap.size, 3, none⟩)) W := fun _ => by kernel_rfl
  have j0 : ∀ W, (Instr.index 142 (.agg #[.pointer (some ⟨Bo, 0, none⟩), .pointer (some ⟨Bo, 1, none⟩), .pointer (some ⟨Bo, 2, none⟩), .pointer (some ⟨Bo, 3, none⟩)]) (.int .i64 0)).run Try.prog W = .ok (.pointer (some ⟨Bo, 0, none⟩)) W := fun _ => by kernel_rfl
  have j1 : ∀ W, (Instr.index 142 (.agg #[.pointer (some ⟨Bo, 0, none⟩), .pointer (some ⟨Bo, 1, none⟩), .pointer (some ⟨Bo, 2, none⟩), .pointer (some ⟨Bo, 3, none⟩)]) (.int .i64 1)).run Try.prog W = .ok (.pointer (some ⟨Bo, 1, none⟩)) W := fun _ => by kernel_rfl
  have j2 : ∀ W, (Instr.index 142 (.agg #[.pointer (some ⟨Bo, 0, none⟩), .pointer (some ⟨Bo, 1, none⟩), .pointer (some ⟨Bo, 2, none⟩), .pointer (some ⟨Bo, 3, none⟩)]) (.int .i64 2)).run Try.prog W = .ok (.pointer (some ⟨Bo, 2, none⟩)) W := fun _ => by kernel_rfl
  have j3 : ∀ W, (Instr.index 142 (.agg #[.pointer (some ⟨Bo, 0, none⟩), .pointer (some ⟨Bo, 1, none⟩), .pointer (some ⟨Bo, 2, none⟩), .pointer (some ⟨Bo, 3, none⟩)]) (.int .i64 3)).run Try.prog W = .ok (.pointer (some ⟨Bo, 3, none⟩)) W := fun _ => by kernel_rfl
  go_enter Try.func89, Try.ntmps89
  go_wp2_with (go_at_call 90; refine (numbers_any _ _).mono ?_; rintro e w1 ⟨rfl, q0, rfl⟩)
  have hb0 : Below u.heap.size u (((u.alloc (.cells #[.int .i64 M, .int .i64 H, .int .i64 S, .int .i64 G] 42)).alloc q0).drew) := (((Below.refl _ _).alloc (Nat.le_refl _) _).alloc (by simp) _).drew
  have hc0 : RowIs (((u.alloc (.cells #[.int .i64 M, .int .i64 H, .int .i64 S, .int .i64 G] 42)).alloc q0).drew) u.heap.size #[.int .i64 M, .int .i64 H, .int .i64 S, .int .i64 G] := ((RowIs.new _ _ _).alloc _).drew
  have hi0 : IsRow (((u.alloc (.cells #[.int .i64 M, .int .i64 H, .int .i64 S, .int .i64 G] 42)).alloc q0).drew) Bo := (hu.alloc _).alloc _
  have HB := hide (And.intro hb0 (And.intro hc0 hi0))
  clear hb0 hc0 hi0
  rw [alloc_setRow hu.lt, alloc_setRow (by simp; omega)]
  go_loopg [6] 4 (fun gg s6 wr => ∃ (k : Nat) (v : World), k ≤ 4 ∧ 4 - k ≤ gg ∧ s6 = .int .i64 k ∧ wr = v.setRow Bo (mixS k M H S G M' H' S' G') ∧ IsRow v Bo ∧ RowIs v u.heap.size #[.int .i64 M, .int .i64 H, .int .i64 S, .int .i64 G] ∧ Aside (Below u.heap.size u v))
  case atStart => exact ⟨0, _, by omega, by omega, rfl, rfl, (unhide HB).2.2, (unhide HB).2.1, (unhide HB).1⟩
  case round =>
    obtain ⟨k, v, hk, hg, rfl, rfl, hv, hbox, BV⟩ := hrel
    clear HB
    have hvl := hv.lt
    have hbl := hbox.lt
    have hbc : ∀ j, v.cell? ⟨u.heap.size, j, none⟩ = (#[.int .i64 M, .int .i64 H, .int .i64 S, .int .i64 G] : Array Value)[j]? := fun j => by
      obtain ⟨t, h⟩ := hbox
      exact cell_of_row v _ j _ _ _ h
    have zn' : u.heap.size ≠ Bo := by omega
    have hvB := hide (And.intro hv (And.intro hbox BV.out))
    clear hbox
    have hcase : k = 0 ∨ k = 1 ∨ k = 2 ∨ k = 3 ∨ k = 4 := by omega
    rcases hcase with rfl | rfl | rfl | rfl | rfl
    · simp only [mixS]
      go_wp2_with fail
      go_region_with (go_at_call 90; refine (numbers_any _ _).mono ?_; rintro e w1 ⟨rfl, q, rfl⟩)
      all_goals
        go_wp2_with fail
        go_roundg (4 - 1)
        case measure => omega
        case rel =>
          obtain ⟨hv, hbox, hB⟩ := unhide hvB
          refine ⟨1, (v.alloc q).drew.drew, by omega, by omega, rfl, ?_, hv.alloc _, hbox.alloc _, ((hB.alloc hB.size _).drew).drew⟩
          rw [alloc_setRow hv.lt]
          rfl
    · simp only [mixS]
      go_wp2_with fail
      go_region_with (go_at_call 90; refine (numbers_any _ _).mono ?_; rintro e w1 ⟨rfl, q, rfl⟩)
      all_goals
        go_wp2_with fail
        go_roundg (4 - 2)
        case measure => omega
        case rel =>
          obtain ⟨hv, hbox, hB⟩ := unhide hvB
          refine ⟨2, (v.alloc q).drew.drew, by omega, by omega, rfl, ?_, hv.alloc _, hbox.alloc _, ((hB.alloc hB.size _).drew).drew⟩
          rw [alloc_setRow hv.lt]
          rfl
    · simp only [mixS]
      go_wp2_with fail
      go_region_with (go_at_call 90; refine (numbers_any _ _).mono ?_; rintro e w1 ⟨rfl, q, rfl⟩)
      all_goals
        go_wp2_with fail
        go_roundg (4 - 3)
        case measure => omega
        case rel =>
          obtain ⟨hv, hbox, hB⟩ := unhide hvB
          refine ⟨3, (v.alloc q).drew.drew, by omega, by omega, rfl, ?_, hv.alloc _, hbox.alloc _, ((hB.alloc hB.size _).drew).drew⟩
          rw [alloc_setRow hv.lt]
          rfl
    · simp only [mixS]
      go_wp2_with fail
      go_region_with (go_at_call 90; refine (numbers_any _ _).mono ?_; rintro e w1 ⟨rfl, q, rfl⟩)
      all_goals
        go_wp2_with fail
        go_roundg (4 - 4)
        case measure => omega
        case rel =>
          obtain ⟨hv, hbox, hB⟩ := unhide hvB
          refine ⟨4, (v.alloc q).drew.drew, by omega, by omega, rfl, ?_, hv.alloc _, hbox.alloc _, ((hB.alloc hB.size _).drew).drew⟩
          rw [alloc_setRow hv.lt]
          rfl
    · simp only [mixS]
      go_wp2_with fail
      obtain ⟨hv, hbox, hB⟩ := unhide hvB
      refine bodyPost_end (results_none rfl _ _ _) rfl ⟨rfl, v, by rw [unhide HE], hv, hB⟩

def sumStr : List StrT → StrT
  | [] => .zero
  | x :: l => addStr x (sumStr l)
theorem addStr_assoc (a b c : StrT) : addStr (addStr a b) c = addStr a (addStr b c) := by simp [addStr]; omega
theorem addStr_zero (a : StrT) : addStr .zero a = a := by simp [addStr, StrT.zero]
theorem addStr_zero' (a : StrT) : addStr a .zero = a := by simp [addStr, StrT.zero]
theorem sumStr_append (l m : List StrT) : sumStr (l ++ m) = addStr (sumStr l) (sumStr m) := by
  induction l with
  | nil => simp [sumStr, addStr_zero]
  | cons x l ih => simp [sumStr, ih, addStr_assoc]
theorem sumStr_snoc (l : List StrT) (x : StrT) : sumStr (l ++ [x]) = addStr (sumStr l) x := by rw [sumStr_append]; simp [sumStr, addStr_zero']
theorem sumStr_in {l : List StrT} {c : Int} (h : ∀ x ∈ l, StrIn c x) : StrIn (c * l.length) (sumStr l) := by
  induction l with
  | nil => simp [sumStr, StrIn, StrT.zero]
  | cons x l ih =>
    have h1 := h x (by simp)
    have h2 := ih (fun y hy => h y (by simp [hy]))
    simp only [StrIn, sumStr, addStr, List.length_cons, Int.natCast_add, Int.mul_add] at *
    omega

end Go.Proofs.Ytenpbiineblcjaa
