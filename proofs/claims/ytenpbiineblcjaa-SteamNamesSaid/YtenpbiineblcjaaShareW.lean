/-
  Contract of package steam: Share. For every stream and all weights.
-/
import Derived.Test.YtenpbiineblcjaaShareX
namespace Go.Proofs.Ytenpbiineblcjaa
open Go.RowKit Go.Shelf

set_option maxHeartbeats 1600000 in
theorem share_any (s : StrT) (A : Option Addr) (c : Nat) (ws : List Int) (hn : ws.length ≤ 9223372036854775807) (w : World) (hr : Rds eInt w w.heap.size A ws) :
    Calls Try.prog 28 #[vStr s, .slice A ws.length c] w fun e w' => ∃ v, e = .returned (.tuple #[v, .agg #[.int .i64 (shareR s ws).2.1.H, .int .i64 (shareR s ws).2.1.S, .int .i64 (shareR s ws).2.1.G], .int .i64 (shareR s ws).2.2]) ∧ FreshOf eStr w.heap.size w' v (shareR s ws).1 ∧ Below w.heap.size w w' := by
  have hsv := hide (fun W => svalid_any s W)
  have e1 : ∀ args w, (callFunc 64 args).run Try.prog w = .ok (.enter 64 args) w := enters_of Try.func64 (by kernel_rfl) rfl
  have e2 : ∀ args w, (callFunc 68 args).run Try.prog w = .ok (.enter 68 args) w := enters_of Try.func68 (by kernel_rfl) rfl
  have hal := hide (fun (W : World) (hb : Below w.heap.size w W) => allInt A c ws (fun _ => True) (fun x => inB x 0 1000) 64 #[] e1 W (hr.later hb) hn (fun _ _ => trivial) (fun W' x _ _ => share1 W' x))
  have han := hide (fun (W : World) (hb : Below w.heap.size w W) => containsInt A c ws (fun _ => True) (fun x => decide (0 < x)) 68 #[] e2 W (hr.later hb) hn (fun _ _ => trivial) (fun W' x _ _ => share2 W' x))
  have HR := hide hr
  clear e1 e2 hr
  by_cases hbad : (strOk s && wtsOk ws) = true
  · clear hsv hal han
    have hR : shareR s ws = (partsL s ws, lostL s ws, 0) := by simp only [shareR, if_pos hbad]
    rw [hR]
    rw [Bool.and_eq_true] at hbad
    exact share_ok s A c ws hn (strOk_iff.1 hbad.1) (wtsOk_iff.1 hbad.2) w (unhide HR)
  · have hR : shareR s ws = ([], ⟨0, 0, 0⟩, 1) := by simp only [shareR, if_neg hbad]
    have HF := hide hR
    clear hR
    simp only [Bool.not_eq_true] at hbad
    have HB := hide hbad
    clear hbad
    cases h1 : strOk s with
    | false =>
      rw [h1] at hsv
      have H1 := hide h1
      clear h1
      obtain ⟨M, H, S, G⟩ := s
      show Calls Try.prog 28 #[.agg #[.int .i64 M, .int .i64 H, .int .i64 S, .int .i64 G], .slice A ws.length c] w _
      go_enter Try.func28, Try.ntmps28
      go_wp2_with (go_at_call 63; refine (unhide hsv _).mono ?_; rintro e w3 ⟨rfl, q3, rfl⟩)
      refine bodyPost_ret (v := .tuple #[.slice none 0 0, .agg #[.int .i64 0, .int .i64 0, .int .i64 0], .int .i64 1]) (by simp [results, Try.results28, go_sem]) rfl ⟨.slice none 0 0, by rw [unhide HF], by rw [unhide HF]; exact ⟨none, 0, rfl, Nat.le_refl _, Rds.nil _ _ _ _, fun b o e => by cases e⟩, ?_⟩
      exact (((Below.refl _ _).alloc (Nat.le_refl _) _).alloc (by simp) _).alloc (by simp; omega) _
    | true =>
      rw [h1] at hsv
      have hw : wtsOk ws = false := by have := unhide HB; rw [h1] at this; simpa using this
      clear h1 HB
      by_cases h20 : 20 < ws.length
      · have HW := hide hw
        clear hw
        obtain ⟨M, H, S, G⟩ := s
        show Calls Try.prog 28 #[.agg #[.int .i64 M, .int .i64 H, .int .i64 S, .int .i64 G], .slice A ws.length c] w _
        go_enter Try.func28, Try.ntmps28
        go_wp2_with (go_at_call 63; refine (unhide hsv _).mono ?_; rintro e w3 ⟨rfl, q3, rfl⟩)
        refine bodyPost_ret (v := .tuple #[.slice none 0 0, .agg #[.int .i64 0, .int .i64 0, .int .i64 0], .int .i64 1]) (by simp [results, Try.results28, go_sem]) rfl ⟨.slice none 0 0, by rw [unhide HF], by rw [unhide HF]; exact ⟨none, 0, rfl, Nat.le_refl _, Rds.nil _ _ _ _, fun b o e => by cases e⟩, ?_⟩
        exact (((Below.refl _ _).alloc (Nat.le_refl _) _).alloc (by simp) _).alloc (by simp; omega) _
      · have h20' : ws.length ≤ 20 := by omega
        cases h3 : ws.all (fun x => inB x 0 1000) with
        | false =>
          rw [h3] at hal
          have H3 := hide h3
          clear h3 hw
          obtain ⟨M, H, S, G⟩ := s
          show Calls Try.prog 28 #[.agg #[.int .i64 M, .int .i64 H, .int .i64 S, .int .i64 G], .slice A ws.length c] w _
          go_enter Try.func28, Try.ntmps28
          go_wp2_with (go_at_call 63; refine (unhide hsv _).mono ?_; rintro e w3 ⟨rfl, q3, rfl⟩)
          have hW0 : Below w.heap.size w (((w.alloc (.cells #[.int .i64 M, .int .i64 H, .int .i64 S, .int .i64 G] 42)).alloc (.cells #[.int .i64 0, .int .i64 0, .int .i64 0] 54)).alloc q3) := (((Below.refl _ _).alloc (Nat.le_refl _) _).alloc (by simp) _).alloc (by simp; omega) _
          have hR1 : RowIs (((w.alloc (.cells #[.int .i64 M, .int .i64 H, .int .i64 S, .int .i64 G] 42)).alloc (.cells #[.int .i64 0, .int .i64 0, .int .i64 0] 54)).alloc q3) (w.heap.size + 1) #[.int .i64 0, .int .i64 0, .int .i64 0] := by
            have := (RowIs.new (w.alloc (.cells #[.int .i64 M, .int .i64 H, .int .i64 S, .int .i64 G] 42)) #[.int .i64 0, .int .i64 0, .int .i64 0] 54).alloc q3
            simpa using this
          go_wp2_with (first
            | (go_at_call 66; refine (unhide hal _ hW0).mono ?_; rintro e w4 ⟨rfl, hb4⟩; obtain ⟨u, rfl, r0, r1, hb⟩ := regraft2 (((RowIs.new _ _ _).alloc _).alloc _) hR1 hW0 hb4; clear hb4; have z0 := r0.lt; have z1 := r1.lt)
            | (go_at_call 67; refine (unhide han _ (belowRow (belowRow hb (Nat.le_refl _) _) (by omega) _)).mono ?_; rintro e w5 ⟨rfl, hb5⟩; obtain ⟨u', rfl, r0', r1', hb'⟩ := again2 r0 r1 hb (Nat.le_refl _) (by omega) (by omega) hb5; clear hb5; have z0' := r0'.lt; have z1' := r1'.lt))
          refine bodyPost_ret (v := .tuple #[.slice none 0 0, .agg #[.int .i64 0, .int .i64 0, .int .i64 0], .int .i64 1]) (by simp [results, Try.results28, go_sem, r1]) rfl ⟨.slice none 0 0, by rw [unhide HF], by rw [unhide HF]; exact ⟨none, 0, rfl, Nat.le_refl _, Rds.nil _ _ _ _, fun b o e => by cases e⟩, ?_⟩
          exact belowRow (belowRow hb (by simp) _) (by simp) _
        | true =>
          have h4 : ws.any (fun x => decide (0 < x)) = false := by
            simp only [wtsOk, h3] at hw
            simpa [h20'] using hw
          rw [h3] at hal
          rw [h4] at han
          have H3 := hide h3
          have H4 := hide h4
          clear h3 h4 hw
          obtain ⟨M, H, S, G⟩ := s
          show Calls Try.prog 28 #[.agg #[.int .i64 M, .int .i64 H, .int .i64 S, .int .i64 G], .slice A ws.length c] w _
          go_enter Try.func28, Try.ntmps28
          go_wp2_with (go_at_call 63; refine (unhide hsv _).mono ?_; rintro e w3 ⟨rfl, q3, rfl⟩)
          have hW0 : Below w.heap.size w (((w.alloc (.cells #[.int .i64 M, .int .i64 H, .int .i64 S, .int .i64 G] 42)).alloc (.cells #[.int .i64 0, .int .i64 0, .int .i64 0] 54)).alloc q3) := (((Below.refl _ _).alloc (Nat.le_refl _) _).alloc (by simp) _).alloc (by simp; omega) _
          have hR1 : RowIs (((w.alloc (.cells #[.int .i64 M, .int .i64 H, .int .i64 S, .int .i64 G] 42)).alloc (.cells #[.int .i64 0, .int .i64 0, .int .i64 0] 54)).alloc q3) (w.heap.size + 1) #[.int .i64 0, .int .i64 0, .int .i64 0] := by
            have := (RowIs.new (w.alloc (.cells #[.int .i64 M, .int .i64 H, .int .i64 S, .int .i64 G] 42)) #[.int .i64 0, .int .i64 0, .int .i64 0] 54).alloc q3
            simpa using this
          go_wp2_with (first
            | (go_at_call 66; refine (unhide hal _ hW0).mono ?_; rintro e w4 ⟨rfl, hb4⟩; obtain ⟨u, rfl, r0, r1, hb⟩ := regraft2 (((RowIs.new _ _ _).alloc _).alloc _) hR1 hW0 hb4; clear hb4; have z0 := r0.lt; have z1 := r1.lt)
            | (go_at_call 67; refine (unhide han _ (belowRow (belowRow hb (Nat.le_refl _) _) (by omega) _)).mono ?_; rintro e w5 ⟨rfl, hb5⟩; obtain ⟨u', rfl, r0', r1', hb'⟩ := again2 r0 r1 hb (Nat.le_refl _) (by omega) (by omega) hb5; clear hb5; have z0' := r0'.lt; have z1' := r1'.lt))
          refine bodyPost_ret (v := .tuple #[.slice none 0 0, .agg #[.int .i64 0, .int .i64 0, .int .i64 0], .int .i64 1]) (by simp [results, Try.results28, go_sem, r1']) rfl ⟨.slice none 0 0, by rw [unhide HF], by rw [unhide HF]; exact ⟨none, 0, rfl, Nat.le_refl _, Rds.nil _ _ _ _, fun b o e => by cases e⟩, ?_⟩
          exact belowRow (belowRow hb' (by simp) _) (by simp) _
end Go.Proofs.Ytenpbiineblcjaa
