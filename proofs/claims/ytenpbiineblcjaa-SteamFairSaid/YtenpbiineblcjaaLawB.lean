/-
  Contracts of the makers of slices: Streams and Table: they return a new slice that reads as the given one. Up to 1000 rows.
-/
import Derived.Test.YtenpbiineblcjaaLawA
namespace Go.Proofs.Ytenpbiineblcjaa
open Go.RowKit Go.Shelf

theorem mkStr_is (M H S G : Int) (w : World) :
    Calls Try.prog 26 #[.agg #[.int .i64 M, .int .i64 H, .int .i64 S, .int .i64 G]] w fun e w' => e = .returned (.agg #[.int .i64 M, .int .i64 H, .int .i64 S, .int .i64 G]) ∧ ∃ o1 o2, (w.alloc o1).alloc o2 = w' :=
  mkStr_any ⟨M, H, S, G⟩ w

theorem take_flat {α : Type} (E : Enc α) (l : List α) (k : Nat) (x : α) (h : l[k]? = some x) : (l.take (k + 1)).flatMap E.cells = (l.take k).flatMap E.cells ++ E.cells x := by
  rw [List.take_add_one, h, List.flatMap_append]
  simp

set_option maxHeartbeats 1600000 in
theorem mkStreams_any (A : Option Addr) (c : Nat) (t : List StrT) (hn : t.length ≤ 1000) (w : World) (hr : Rds eStr w w.heap.size A t) :
    Calls Try.prog 20 #[.slice A t.length c] w fun e w' => ∃ v, e = .returned v ∧ FreshOf eStr w.heap.size w' v t ∧ Below w.heap.size w w' := by
  obtain ⟨i0, hi, hz0, hz1, hz2⟩ := info_parts str_info
  have HR := hide hr
  clear hr
  go_enter Try.func20, Try.ntmps20
  go_wp2
  go_loopg [3, 4] t.length (fun gg s3 s4 wr => ∃ k : Nat, k ≤ t.length ∧ t.length - k ≤ gg ∧ s4 = .int .i64 k ∧ wr.ownsRow w.heap.size 42 4 s3 k ((t.take k).flatMap eStr.cells) ∧ Aside (Below w.heap.size w wr))
  case atStart => exact ⟨0, Nat.zero_le _, by omega, rfl, World.ownsRow_nil _ _ _ _, Below.refl _ _⟩
  case round =>
    obtain ⟨k, hk, hg, rfl, hown, BW⟩ := hrel
    have hsz := BW.out.size
    by_cases hlt : k < t.length
    · have hx : t[k]? = some (t[k]'hlt) := List.getElem?_eq_getElem _
      generalize t[k]'hlt = x at hx
      have HT := hide (take_flat eStr t k x hx)
      obtain ⟨b, o, rfl, hb, d0, d1, d2, d3⟩ := rdsStr ((unhide HR).later BW.out) hx
      obtain ⟨M, H, S, G⟩ := x
      dsimp only at d0 d1 d2 d3
      have hbz : b < wr.heap.size := by omega
      have hkn : (k : Int) < t.length := by omega
      clear hx
      go_wp2_with (first
        | (go_at_call 26; refine (mkStr_is _ _ _ _ _).mono ?_; rintro e w1 ⟨rfl, o1, o2, rfl⟩)
        | (at_builtin; refine wpList_append_own _ rfl _ _ 32 rfl w.heap.size 42 i0 _ 4 32 Try.underlying32 hi hz0 hz1 hz2 rfl (by decide) _ _ _ rfl (((hown.alloc _).alloc _).alloc _) ⟨wr.heap.size + 1 + 1, 0, none⟩ 1 1 [.int .i64 M, .int .i64 H, .int .i64 S, .int .i64 G] rfl rfl (World.news_of_block (B := wr.heap.size + 1 + 1) (t := 42) (fr := (0, 0)) (by simpa using heap_alloc_new ((wr.alloc o1).alloc o2) (.cells #[.int .i64 M, .int .i64 H, .int .i64 S, .int .i64 G] 42))) (by simp [Value.oneCell']) (by unfold maxLen; omega) (by omega) (by simp; omega) ?_; intro v' w1 hown' hgrow _))
      go_roundg (t.length - (k + 1))
      case measure => omega
      case rel =>
        rw [show ((t.take k).flatMap eStr.cells ++ [Value.int .i64 M, .int .i64 H, .int .i64 S, .int .i64 G]) = (t.take (k + 1)).flatMap eStr.cells from (unhide HT).symm] at hown'
        exact ⟨k + 1, by omega, by omega, by go_num, hown', ((((BW.out.alloc hsz _).alloc (by simp; omega) _).alloc (by simp; omega) _)).grown hgrow (by simp; omega) (fun j hj => by have := hown.lt j hj; omega)⟩
    · obtain rfl : k = t.length := by omega
      rw [List.take_length] at hown
      have hfr := fresh_of_own eStr hown
      have HF := hide hfr
      have HB := hide BW.out
      clear hfr hown
      go_wp2_with fail
      go_ret
      exact ⟨_, rfl, unhide HF, unhide HB⟩

theorem row_info : (Try.prog.info? 115).map (fun i => (i.zero, i.size, i.bytes)) = some (some (.agg #[.int .i64 0, .int .i64 0, .int .i64 0, .int .i64 0, .int .i64 0]), 5, 40) := by kernel_rfl

set_option maxRecDepth 100000 in
set_option maxHeartbeats 3200000 in
theorem mkTable_any (A : Option Addr) (c : Nat) (t : List RowT) (hn : t.length ≤ 1000) (w : World) (hr : Rds eRow w w.heap.size A t) :
    Calls Try.prog 19 #[.slice A t.length c] w fun e w' => ∃ v, e = .returned v ∧ FreshOf eRow w.heap.size w' v t ∧ Below w.heap.size w w' := by
  obtain ⟨i0, hi, hz0, hz1, hz2⟩ := info_parts row_info
  have HR := hide hr
  clear hr
  go_enter Try.func19, Try.ntmps19
  go_wp2
  go_loopg [3, 4] t.length (fun gg s3 s4 wr => ∃ k : Nat, k ≤ t.length ∧ t.length - k ≤ gg ∧ s4 = .int .i64 k ∧ wr.ownsRow w.heap.size 115 5 s3 k ((t.take k).flatMap eRow.cells) ∧ Aside (Below w.heap.size w wr))
  case atStart => exact ⟨0, Nat.zero_le _, by omega, rfl, World.ownsRow_nil _ _ _ _, Below.refl _ _⟩
  case round =>
    obtain ⟨k, hk, hg, rfl, hown, BW⟩ := hrel
    obtain ⟨s3, rfl⟩ : ∃ s, s = u3 := ⟨_, rfl⟩
    have hsz := BW.out.size
    by_cases hlt : k < t.length
    · have hx : t[k]? = some (t[k]'hlt) := List.getElem?_eq_getElem _
      generalize t[k]'hlt = x at hx
      have HT := hide (take_flat eRow t k x hx)
      obtain ⟨b, o, rfl, hb, d0, d1, d2, d3, d4⟩ := rdsRow ((unhide HR).below BW.out (Nat.le_refl _)) hx
      obtain ⟨x0, x1, x2, x3, x4⟩ := x
      dsimp only at d0 d1 d2 d3 d4
      have hbz : b < wr.heap.size := by omega
      have hkn : (k : Int) < t.length := by omega
      have hk0 : (0 : Int) ≤ (k : Int) := by omega
      have hnw := hide (World.news_of_block (w := (wr.alloc (.cells #[.int .i64 x0, .int .i64 x1, .int .i64 x2, .int .i64 x3, .int .i64 x4] 115)).drew) (B := wr.heap.size) (cs := #[.int .i64 x0, .int .i64 x1, .int .i64 x2, .int .i64 x3, .int .i64 x4]) (t := 115) (fr := (0, 0)) (heap_alloc_new _ _))
      have HN := hide (show s3.ownBlock ≠ some b from fun e => by have := hown.lt _ e; omega)
      clear hx
      go_wp2_with fail
      go_region_held3 (fun W => W.cell? ⟨b, o + k * 5, none⟩ = some (.int .i64 x0) ∧ W.cell? ⟨b, o + k * 5 + 1, none⟩ = some (.int .i64 x1) ∧ W.cell? ⟨b, o + k * 5 + 2, none⟩ = some (.int .i64 x2) ∧ W.cell? ⟨b, o + k * 5 + 3, none⟩ = some (.int .i64 x3) ∧ W.cell? ⟨b, o + k * 5 + 4, none⟩ = some (.int .i64 x4))
        (first | go_simp | (exact K9))
        (first
          | (refine step_append_lies _ (by rfl) _ _ _ (by rfl) w.heap.size 115 i0 _ 5 40 Try.underlying30 hi hz0 hz1 hz2 rfl (by omega) _ k _ (by rfl) ((hown.alloc _).drew) ⟨wr.heap.size, 0, none⟩ 1 1 [.int .i64 x0, .int .i64 x1, .int .i64 x2, .int .i64 x3, .int .i64 x4] (by rfl) (by rfl) (unhide hnw) (by simp [Value.oneCell']) (by omega) (by unfold maxLen; omega) (by omega) (by simp; omega) (wr.heap.size + 1) (by simp) ?_; intro gg9 cap9 w9 hown9 hgrow hat hlt9; have hcc : ∀ j, w9.cell? ⟨b, j, none⟩ = wr.cell? ⟨b, j, none⟩ := fun j => (World.cell?_of_block (a := ⟨b, j, none⟩) (hgrow.block b (by first | (simp; done) | (simp; omega)) (fun e => unhide HN e.symm))).trans (by go_simp); have K9 := And.intro ((hcc _).trans d0) (And.intro ((hcc _).trans d1) (And.intro ((hcc _).trans d2) (And.intro ((hcc _).trans d3) ((hcc _).trans d4))))))
      clear K9
      rw [show ((t.take k).flatMap eRow.cells ++ [Value.int .i64 x0, .int .i64 x1, .int .i64 x2, .int .i64 x3, .int .i64 x4]) = (t.take (k + 1)).flatMap eRow.cells from (unhide HT).symm] at hown9
      have HG := hide hgrow
      have HO := hide hown9
      clear hgrow hown9 hat hcc
      go_wp2_with fail
      go_roundg (t.length - (k + 1))
      case measure => omega
      case rel => exact ⟨k + 1, by omega, by omega, by go_num, unhide HO, ((BW.out.alloc hsz _).drew).grown (unhide HG) (by simp; omega) (fun j hj => by have := hown.lt j hj; omega)⟩
    · obtain rfl : k = t.length := by omega
      rw [List.take_length] at hown
      have hfr := fresh_of_own eRow hown
      have HF := hide hfr
      have HB := hide BW.out
      clear hfr hown
      go_wp2_with fail
      go_ret
      exact ⟨_, rfl, unhide HF, unhide HB⟩
end Go.Proofs.Ytenpbiineblcjaa
