/-
  Contracts of package steam: Flash. For every table, level and stream.
-/
import Derived.Test.YtenpbiineblcjaaSteamB
namespace Go.Proofs.Ytenpbiineblcjaa
open Go.RowKit Go.Shelf

theorem regraft1 {w W w2 : World} {g0 : Nat} {c0 : Array Value} (h0 : RowIs W g0 c0) (hW : Below w.heap.size w W) (hb : Below W.heap.size W w2) :
    ∃ u, w2 = u.setRow g0 c0 ∧ IsRow u g0 ∧ Below w.heap.size w u :=
  graft1 (fun W => Below w.heap.size w W) (h0.below hb h0.lt) (hW.trans (hb.mono hW.size))
theorem regraft2 {w W w2 : World} {g0 g1 : Nat} {c0 c1 : Array Value} (h0 : RowIs W g0 c0) (h1 : RowIs W g1 c1) (hW : Below w.heap.size w W) (hb : Below W.heap.size W w2) :
    ∃ u, w2 = (u.setRow g0 c0).setRow g1 c1 ∧ IsRow u g0 ∧ IsRow u g1 ∧ Below w.heap.size w u :=
  graft2 (fun W => Below w.heap.size w W) (h0.below hb h0.lt) (h1.below hb h1.lt) (hW.trans (hb.mono hW.size))
theorem regraft3 {w W w2 : World} {g0 g1 g2 : Nat} {c0 c1 c2 : Array Value} (h0 : RowIs W g0 c0) (h1 : RowIs W g1 c1) (h2 : RowIs W g2 c2) (hW : Below w.heap.size w W) (hb : Below W.heap.size W w2) :
    ∃ u, w2 = ((u.setRow g0 c0).setRow g1 c1).setRow g2 c2 ∧ IsRow u g0 ∧ IsRow u g1 ∧ IsRow u g2 ∧ Below w.heap.size w u :=
  graft3 (fun W => Below w.heap.size w W) (h0.below hb h0.lt) (h1.below hb h1.lt) (h2.below hb h2.lt) (hW.trans (hb.mono hW.size))

set_option maxHeartbeats 1600000 in
theorem flash_any (A : Option Addr) (c : Nat) (t : List RowT) (level : Int) (s : StrT) (hn : t.length ≤ 9223372036854775807) (hc : t.length ≤ c) (w : World) (hr : Rds eRow w w.heap.size A t) :
    Calls Try.prog 25 #[.slice A t.length c, .int .i64 level, vStr s] w fun e w' => e = .returned (.tuple #[vPart (flashR t level s).1, .int .i64 (flashR t level s).2]) ∧ Below w.heap.size w w' := by
  have hv := hide (fun (W : World) (hb : Below w.heap.size w W) => valid_any A c t hn hc W (hr.later hb))
  have hat := hide (fun (h0 : 0 ≤ level) (h1 : level ≤ t.length - 1) (W : World) (hb : Below w.heap.size w W) => at_any A c t level h0 h1 hn W (hr.later hb))
  have hrow := hide (fun (ht : tabOk t = true) (h0 : 0 ≤ level) (h1 : level ≤ t.length - 1) => tabOk_row ht (rowAt_get h0 h1))
  clear hr
  have hso := hide (fun (W : World) => svalid_any s W)
  have hof := hide (fun (h : RowB (rowAt t level)) (hs : StrB s) (W : World) => of_any (rowAt t level) s h hs W)
  cases ht : tabOk t with
  | false =>
    rw [ht] at hv
    have HF := Lib.hid (show flashR t level s = (PartT.zero, 1) by simp [flashR, ht])
    clear ht
    obtain ⟨M, H, S, G⟩ := s
    show Calls Try.prog 25 #[.slice A t.length c, .int .i64 level, .agg #[.int .i64 M, .int .i64 H, .int .i64 S, .int .i64 G]] w _
    go_enter Try.func25, Try.ntmps25
    go_wp2_with (go_at_call 56; refine (unhide hv _ (((Below.refl _ _).alloc (Nat.le_refl _) _).alloc (by simp) _)).mono ?_; rintro e w1 ⟨rfl, hb1⟩; obtain ⟨u, rfl, r0, r1, hb⟩ := new2 hb1; clear hb1; have z0 := r0.lt; have z1 := r1.lt)
    refine bodyPost_ret (v := .tuple #[vPart PartT.zero, .int .i64 1]) (by first | (simp [results, Try.results25, go_sem, r1, vPart, PartT.zero, StrT.zero]; done) | (simp [results, Try.results25, go_sem, r1, z1, vPart, PartT.zero, StrT.zero]; done)) rfl ⟨by rw [HF.out], ?_⟩
    exact belowRow (belowRow hb (by simp) _) (by simp) _
  | true =>
    cases hl : inB level 0 (t.length - 1) with
    | false =>
      rw [ht] at hv
      have HF := Lib.hid (show flashR t level s = (PartT.zero, 2) by simp [flashR, ht, hl])
      clear ht hrow
      have HL := Lib.hid hl
      obtain ⟨M, H, S, G⟩ := s
      show Calls Try.prog 25 #[.slice A t.length c, .int .i64 level, .agg #[.int .i64 M, .int .i64 H, .int .i64 S, .int .i64 G]] w _
      go_enter Try.func25, Try.ntmps25
      go_wp2_with (first | (go_at_call 56; refine (unhide hv _ (((Below.refl _ _).alloc (Nat.le_refl _) _).alloc (by simp) _)).mono ?_; rintro e w1 ⟨rfl, hb1⟩; obtain ⟨u, rfl, r0, r1, hb⟩ := new2 hb1; clear hb1; have z0 := r0.lt; have z1 := r1.lt) | (go_at_call 62; refine (has_any _ _ _ _ hn _).mono ?_; rintro e w2 ⟨rfl, rfl⟩))
      refine bodyPost_ret (v := .tuple #[vPart PartT.zero, .int .i64 2]) (by first | (simp [results, Try.results25, go_sem, r1, vPart, PartT.zero, StrT.zero]; done) | (simp [results, Try.results25, go_sem, r1, z1, vPart, PartT.zero, StrT.zero]; done)) rfl ⟨by rw [HF.out], ?_⟩
      exact belowRow (belowRow hb (by simp) _) (by simp) _
    | true =>
      obtain ⟨l0, l1⟩ := inB_iff.1 hl
      rw [ht] at hv
      have hrow' := unhide hrow ht l0 l1
      have hat' := hide (unhide hat l0 l1)
      clear hrow hat
      cases hs : strOk s with
      | false =>
        rw [hs] at hso
        have HF := Lib.hid (show flashR t level s = (PartT.zero, 1) by simp [flashR, ht, hl, hs])
        clear ht hs hof
        obtain ⟨M, H, S, G⟩ := s
        show Calls Try.prog 25 #[.slice A t.length c, .int .i64 level, .agg #[.int .i64 M, .int .i64 H, .int .i64 S, .int .i64 G]] w _
        go_enter Try.func25, Try.ntmps25
        go_wp2_with (first | (go_at_call 56; refine (unhide hv _ (((Below.refl _ _).alloc (Nat.le_refl _) _).alloc (by simp) _)).mono ?_; rintro e w1 ⟨rfl, hb1⟩; obtain ⟨u, rfl, r0, r1, hb⟩ := new2 hb1; clear hb1; have z0 := r0.lt; have z1 := r1.lt) | (go_at_call 62; refine (has_any _ _ _ _ hn _).mono ?_; rintro e w2 ⟨rfl, rfl⟩) | (go_at_call 63; refine (unhide hso _).mono ?_; rintro e w3 ⟨rfl, q3, rfl⟩))
        refine bodyPost_ret (v := .tuple #[vPart PartT.zero, .int .i64 1]) (by first | (simp [results, Try.results25, go_sem, vPart, PartT.zero, StrT.zero]; done) | (simp [results, Try.results25, go_sem, r1, z1, vPart, PartT.zero, StrT.zero]; done)) rfl ⟨by rw [HF.out], ?_⟩
        exact (belowRow (belowRow hb (by simp) _) (by simp) _).alloc (by simpa using hb.size) _
      | true =>
        rw [hs] at hso
        have HF := Lib.hid (show flashR t level s = (flashOf (rowAt t level) s, 0) by simp [flashR, ht, hl, hs])
        have hof' := hide (unhide hof hrow' (strOk_iff.1 hs))
        clear ht hs hof hrow'
        obtain ⟨M, H, S, G⟩ := s
        show Calls Try.prog 25 #[.slice A t.length c, .int .i64 level, .agg #[.int .i64 M, .int .i64 H, .int .i64 S, .int .i64 G]] w _
        go_enter Try.func25, Try.ntmps25
        go_wp2_with (first | (go_at_call 56; refine (unhide hv _ (((Below.refl _ _).alloc (Nat.le_refl _) _).alloc (by simp) _)).mono ?_; rintro e w1 ⟨rfl, hb1⟩; obtain ⟨u, rfl, r0, r1, hb⟩ := new2 hb1; clear hb1; have z0 := r0.lt; have z1 := r1.lt) | (go_at_call 62; refine (has_any _ _ _ _ hn _).mono ?_; rintro e w2 ⟨rfl, rfl⟩) | (go_at_call 63; refine (unhide hso _).mono ?_; rintro e w3 ⟨rfl, q3, rfl⟩))
        have hW : Below w.heap.size w (((u.setRow w.heap.size #[.int .i64 M, .int .i64 H, .int .i64 S, .int .i64 G]).setRow (w.heap.size + 1) #[.int .i64 0, .int .i64 0, .int .i64 0, .int .i64 0, .int .i64 0, .int .i64 0, .int .i64 0, .int .i64 0, .int .i64 0, .int .i64 0]).alloc q3) :=
          (belowRow (belowRow hb (by simp) _) (by simp) _).alloc (by simpa using hb.size) _
        go_region_held3 (fun W => W.cell? ⟨w.heap.size, 0, none⟩ = some (.int .i64 M) ∧ W.cell? ⟨w.heap.size, 1, none⟩ = some (.int .i64 H) ∧ W.cell? ⟨w.heap.size, 2, none⟩ = some (.int .i64 S) ∧ W.cell? ⟨w.heap.size, 3, none⟩ = some (.int .i64 G)) (go_simp)
          (first
            | (go_at_call 60; refine (unhide hat' _ hW.drew).mono ?_; rintro e w4 ⟨rfl, q4, rfl⟩)
            | (go_at_call 61; refine (unhide hof' _).mono ?_; rintro e w4 ⟨rfl, hb4⟩; obtain ⟨u', rfl, r0', r1', hb'⟩ := regraft2 (((((RowIs.same r0 _).other (by simp) _).alloc _).alloc _).drew) ((((RowIs.same (r1.setRow _ _) _).alloc _).alloc _).drew) ((hW.alloc hW.size _).drew) hb4; clear hb4; have z2 := r1'.lt; have z3 := r0'.lt))
        go_wp2
        generalize flashOf (rowAt t level) ⟨M, H, S, G⟩ = p at *
        refine bodyPost_ret (v := .tuple #[vPart p, .int .i64 0]) (by first | (simp [results, Try.results25, go_sem, r1', vPart]; done) | (simp [results, Try.results25, go_sem, r1', z2, vPart]; done)) rfl ⟨by rw [HF.out], ?_⟩
        exact belowRow (belowRow hb' (by simp) _) (by simp) _
end Go.Proofs.Ytenpbiineblcjaa
