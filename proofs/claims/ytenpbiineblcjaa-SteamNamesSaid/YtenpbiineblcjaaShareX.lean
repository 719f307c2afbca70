/-
  Contract of package steam: Share, where stream and weights are valid.
-/
import Derived.Test.YtenpbiineblcjaaShareV
namespace Go.Proofs.Ytenpbiineblcjaa
open Go.RowKit Go.Shelf

set_option maxRecDepth 100000 in
set_option maxHeartbeats 3200000 in
theorem share_ok (s : StrT) (A : Option Addr) (c : Nat) (ws : List Int) (hn : ws.length ≤ 9223372036854775807) (hs : StrB s) (hw : WtsB ws) (w : World) (hr : Rds eInt w w.heap.size A ws) :
    Calls Try.prog 28 #[vStr s, .slice A ws.length c] w fun e w' => ∃ v, e = .returned (.tuple #[v, .agg #[.int .i64 (lostL s ws).H, .int .i64 (lostL s ws).S, .int .i64 (lostL s ws).G], .int .i64 0]) ∧ FreshOf eStr w.heap.size w' v (partsL s ws) ∧ Below w.heap.size w w' := by
  have hsv := hide (fun W => svalid_any s W)
  have e1 : ∀ args w, (callFunc 64 args).run Try.prog w = .ok (.enter 64 args) w := enters_of Try.func64 (by kernel_rfl) rfl
  have e2 : ∀ args w, (callFunc 68 args).run Try.prog w = .ok (.enter 68 args) w := enters_of Try.func68 (by kernel_rfl) rfl
  have hwo := wtsOk_iff.2 hw
  simp only [wtsOk, Bool.and_eq_true] at hwo
  have hal := hide (fun (W : World) (hb : Below w.heap.size w W) => allInt A c ws (fun _ => True) (fun x => inB x 0 1000) 64 #[] e1 W (hr.later hb) hn (fun _ _ => trivial) (fun W' x _ _ => share1 W' x))
  have han := hide (fun (W : World) (hb : Below w.heap.size w W) => containsInt A c ws (fun _ => True) (fun x => decide (0 < x)) 68 #[] e2 W (hr.later hb) hn (fun _ _ => trivial) (fun W' x _ _ => share2 W' x))
  rw [hwo.2.1] at hal
  rw [hwo.2.2] at han
  rw [strOk_iff.2 hs] at hsv
  have hma := hide (fun (W : World) (hb : Below w.heap.size w W) => masses_any s.M A c ws hw hs.m0 hs.m1 W (hr.later hb))
  have hlen := hw.len
  have hpos : 0 < ws.length := by
    have := hw.some
    cases ws with
    | nil => simp [sumI] at this
    | cons => simp
  have HH := hide (And.intro hs hw)
  clear e1 e2 hwo hr
  obtain ⟨M, H, S, G⟩ := s
  obtain ⟨m0, m1, h0, h1, s0, s1, g0, g1⟩ := hs
  clear hw
  dsimp only at m0 m1 h0 h1 s0 s1 g0 g1
  show Calls Try.prog 28 #[.agg #[.int .i64 M, .int .i64 H, .int .i64 S, .int .i64 G], .slice A ws.length c] w _
  go_enter Try.func28, Try.ntmps28
  go_wp2_with (go_at_call 63; refine (unhide hsv _).mono ?_; rintro e w3 ⟨rfl, q3, rfl⟩)
  have hW0 : Below w.heap.size w (((w.alloc (.cells #[.int .i64 M, .int .i64 H, .int .i64 S, .int .i64 G] 42)).alloc (.cells #[.int .i64 0, .int .i64 0, .int .i64 0] 54)).alloc q3) := (((Below.refl _ _).alloc (Nat.le_refl _) _).alloc (by simp) _).alloc (by simp; omega) _
  have hR1 : RowIs (((w.alloc (.cells #[.int .i64 M, .int .i64 H, .int .i64 S, .int .i64 G] 42)).alloc (.cells #[.int .i64 0, .int .i64 0, .int .i64 0] 54)).alloc q3) (w.heap.size + 1) #[.int .i64 0, .int .i64 0, .int .i64 0] := by
    have := (RowIs.new (w.alloc (.cells #[.int .i64 M, .int .i64 H, .int .i64 S, .int .i64 G] 42)) #[.int .i64 0, .int .i64 0, .int .i64 0] 54).alloc q3
    simpa using this
  go_wp2_with (first
    | (go_at_call 66; refine (unhide hal _ hW0).mono ?_; rintro e w4 ⟨rfl, hb4⟩; obtain ⟨u, rfl, r0, r1, hb⟩ := regraft2 (((RowIs.new _ _ _).alloc _).alloc _) hR1 hW0 hb4; clear hb4; have z0 := r0.lt; have z1 := r1.lt)
    | (go_at_call 67; refine (unhide han _ (belowRow (belowRow hb (Nat.le_refl _) _) (by omega) _)).mono ?_; rintro e w5 ⟨rfl, hb5⟩; obtain ⟨u', rfl, r0', r1', hb'⟩ := again2 r0 r1 hb (Nat.le_refl _) (by omega) (by omega) hb5; clear hb5; have z0' := r0'.lt; have z1' := r1'.lt)
    | (go_at_call 69; have hbW := belowRow (belowRow hb' (Nat.le_refl _) #[.int .i64 M, .int .i64 H, .int .i64 S, .int .i64 G]) (show w.heap.size ≤ w.heap.size + 1 by omega) #[.int .i64 0, .int .i64 0, .int .i64 0]; refine (unhide hma _ hbW).mono ?_; rintro e w6 ⟨vm, rfl, hfr, hb6⟩; obtain ⟨gm, cm, sp, rfl, hgm, hcm, hrm⟩ := fresh_pos hfr (by rw [massesL_length]; exact hpos); rw [massesL_length] at hcm ⊢; clear hfr; have hs0 : RowIs w6 w.heap.size #[.int .i64 M, .int .i64 H, .int .i64 S, .int .i64 G] := ((RowIs.same r0' _).other (by omega) _).below hb6 (by simpa using z0'); have hs1 : RowIs w6 (w.heap.size + 1) #[.int .i64 0, .int .i64 0, .int .i64 0] := (RowIs.same (r1'.setRow _ _) _).below hb6 (by simpa using z1'); have hBW : Below w.heap.size w w6 := hbW.trans (hb6.mono hbW.size); clear hb6 hbW))
  clear hal han hma hsv hW0 hR1
  have hML := massesL_length M ws
  have hMB := massesL_bd (unhide HH).2 m0
  have hgm' : gm < w6.heap.size := hrm.lt
  have hz6 : w.heap.size + 1 < w6.heap.size := hs1.lt
  have hgw : w.heap.size + 1 < gm := by have := hgm; simp at this; omega
  generalize hms : massesL M ws = ms at *
  have HMS := hide hms
  have HML := hide hML
  have HMB := hide hMB
  clear hms hML hMB hgm
  obtain ⟨i0, hi, hz0, hz1, hz2⟩ := info_parts str_info
  go_loopg [4, 9, 10, 37] ws.length (fun gg s4 _ _ s37 wr => ∃ k : Nat, k ≤ ws.length ∧ ws.length - k ≤ gg ∧ s37 = .int .i64 k ∧ wr.ownsRow w6.heap.size 42 4 s4 k (((ms.take k).map (partOf ⟨M, H, S, G⟩)).flatMap eStr.cells) ∧ Aside (Below w6.heap.size w6 wr))
  case atStart => exact ⟨0, Nat.zero_le _, by omega, rfl, World.ownsRow_nil _ _ _ _, Below.refl _ _⟩
  case round =>
    obtain ⟨k, hk, hg, rfl, hown, BW⟩ := hrel
    obtain ⟨s4, rfl⟩ : ∃ s4, s4 = u4 := ⟨_, rfl⟩
    have hsz := BW.out.size
    by_cases hlt : k < ws.length
    · have hx : ms[k]? = some (ms[k]'(by rw [unhide HML]; exact hlt)) := List.getElem?_eq_getElem _
      generalize ms[k]'(by rw [unhide HML]; exact hlt) = m at hx
      obtain ⟨mm0, mm1⟩ := unhide HMB m (List.mem_of_getElem? hx)
      have hcm' : wr.cell? ⟨gm, k, none⟩ = some (.int .i64 m) := by
        obtain ⟨t, h⟩ := hrm.below BW.out hgm'
        rw [cell_of_row wr gm k _ _ _ h, vIs_get _ _ _ (by rw [unhide HML]; exact hlt), hx]
        rfl
      have htk : ((ms.take (k + 1)).map (partOf ⟨M, H, S, G⟩)).flatMap eStr.cells = ((ms.take k).map (partOf ⟨M, H, S, G⟩)).flatMap eStr.cells ++ [.int .i64 m, .int .i64 (H * m / max 1 M), .int .i64 (S * m / max 1 M), .int .i64 (G * m / max 1 M)] := by
        rw [List.take_add_one, hx, List.map_append, List.flatMap_append]
        rfl
      have hcb : ∀ (j : Nat), wr.cell? ⟨w.heap.size, j, none⟩ = (#[.int .i64 M, .int .i64 H, .int .i64 S, .int .i64 G] : Array Value)[j]? := fun j => by
        obtain ⟨t, h⟩ := hs0.below BW.out (by omega)
        exact cell_of_row wr _ j _ _ _ h
      have hc3 := hide (fun (n : Int) (hn : 0 ≤ n) (hn1 : n ≤ 10000000000) (Bm : Nat) (W : World) (c0 : W.cell? ⟨Bm, 0, none⟩ = some (.int .i64 m)) (c1 : W.cell? ⟨w.heap.size, 0, none⟩ = some (.int .i64 M)) => share3 n m M hn hn1 mm0 (by omega) m0 m1 Bm w.heap.size W c0 c1)
      have HT := hide htk
      clear htk hx
      have hwz : w.heap.size < wr.heap.size := by omega
      have hwz1 : w.heap.size < wr.heap.size + 1 := by omega
      have hgz : gm < wr.heap.size := by omega
      have hkn : (k : Int) < ws.length := by omega
      have hH1 : H ≤ 10000000000 := by omega
      have hS1 : S ≤ 10000000000 := by omega
      have hG1 : G ≤ 10000000000 := by omega
      have hnw := hide (World.news_of_block (w := ((wr.alloc (.cells #[.int .i64 m] 3)).alloc (.cells #[.int .i64 m, .int .i64 (H * m / max 1 M), .int .i64 (S * m / max 1 M), .int .i64 (G * m / max 1 M)] 42)).drew) (B := wr.heap.size + 1) (cs := #[.int .i64 m, .int .i64 (H * m / max 1 M), .int .i64 (S * m / max 1 M), .int .i64 (G * m / max 1 M)]) (t := 42) (fr := (0, 0)) (by rw [show wr.heap.size + 1 = (wr.alloc (.cells #[.int .i64 m] 3)).heap.size from by simp]; exact heap_alloc_new _ _))
      have hne0 : s4.ownBlock ≠ some wr.heap.size := fun e => by have := hown.lt _ e; omega
      have hne1 : s4.ownBlock ≠ some w.heap.size := fun e => by have := hown.lt _ e; omega
      have HN0 := hide hne0
      have HN1 := hide hne1
      clear hne0 hne1
      go_wp2_with fail
      go_region_held3 (fun W => W.cell? ⟨wr.heap.size, 0, none⟩ = some (.int .i64 m) ∧ W.cell? ⟨w.heap.size, 0, none⟩ = some (.int .i64 M) ∧ W.cell? ⟨w.heap.size, 1, none⟩ = some (.int .i64 H) ∧ W.cell? ⟨w.heap.size, 2, none⟩ = some (.int .i64 S) ∧ W.cell? ⟨w.heap.size, 3, none⟩ = some (.int .i64 G))
        (first | go_simp | (exact ⟨k0, k1, k2, k3, k4⟩))
        (first
          | (go_at_call 70; refine (unhide hc3 _ (by first | exact h0 | exact s0 | exact g0) (by first | exact hH1 | exact hS1 | exact hG1) _ _ (by go_simp) (by go_simp)).mono ?_; rintro e w8 ⟨rfl, rfl⟩)
          | (refine step_append_lies _ (by rfl) _ _ _ (by rfl) w6.heap.size 42 i0 _ 4 32 Try.underlying32 hi hz0 hz1 hz2 rfl (by omega) _ k _ (by rfl) (((hown.alloc _).alloc _).drew) ⟨wr.heap.size + 1, 0, none⟩ 1 1 [.int .i64 m, .int .i64 (H * m / max 1 M), .int .i64 (S * m / max 1 M), .int .i64 (G * m / max 1 M)] (by rfl) (by rfl) (unhide hnw) (by simp [Value.oneCell']) (by omega) (by unfold maxLen; omega) (by omega) (by simp; omega) (wr.heap.size + 1 + 1) (by simp) ?_; intro gg cap w9 hown9 hgrow hat hlt9; have k0 : w9.cell? ⟨wr.heap.size, 0, none⟩ = some (.int .i64 m) := (World.cell?_of_block (a := ⟨wr.heap.size, 0, none⟩) (hgrow.block wr.heap.size (by first | (simp; done) | (simp; omega)) (fun e => unhide HN0 e.symm))).trans (by go_simp); have k1 : w9.cell? ⟨w.heap.size, 0, none⟩ = some (.int .i64 M) := (World.cell?_of_block (a := ⟨w.heap.size, 0, none⟩) (hgrow.block w.heap.size (by first | (simp; done) | (simp; omega)) (fun e => unhide HN1 e.symm))).trans (by go_simp); have k2 : w9.cell? ⟨w.heap.size, 1, none⟩ = some (.int .i64 H) := (World.cell?_of_block (a := ⟨w.heap.size, 1, none⟩) (hgrow.block w.heap.size (by first | (simp; done) | (simp; omega)) (fun e => unhide HN1 e.symm))).trans (by go_simp); have k3 : w9.cell? ⟨w.heap.size, 2, none⟩ = some (.int .i64 S) := (World.cell?_of_block (a := ⟨w.heap.size, 2, none⟩) (hgrow.block w.heap.size (by first | (simp; done) | (simp; omega)) (fun e => unhide HN1 e.symm))).trans (by go_simp); have k4 : w9.cell? ⟨w.heap.size, 3, none⟩ = some (.int .i64 G) := (World.cell?_of_block (a := ⟨w.heap.size, 3, none⟩) (hgrow.block w.heap.size (by first | (simp; done) | (simp; omega)) (fun e => unhide HN1 e.symm))).trans (by go_simp)))
      clear k0 k1 k2 k3 k4
      rw [← unhide HT] at hown9
      have hgr := hide hgrow
      have hO := hide hown9
      clear hgrow hown9 hat
      go_wp2_with fail
      go_roundg (ws.length - (k + 1))
      case measure => omega
      case rel => exact ⟨k + 1, by omega, by omega, by go_num, unhide hO, (((BW.out.alloc hsz _).alloc (by simp; omega) _).drew).grown (unhide hgr) (by simp; omega) (fun j hj => by have := hown.lt j hj; omega)⟩
    · obtain rfl : k = ws.length := by omega
      have etk : (ms.take ws.length).map (partOf ⟨M, H, S, G⟩) = partsL ⟨M, H, S, G⟩ ws := by
        rw [List.take_of_length_le (by rw [unhide HML]; exact Nat.le_refl _), partsL, unhide HMS]
      rw [etk] at hown
      have hpl : (partsL ⟨M, H, S, G⟩ ws).length = ws.length := by rw [partsL, List.length_map, massesL_length]
      have hfr : FreshOf eStr w6.heap.size wr s4 (partsL ⟨M, H, S, G⟩ ws) := fresh_of_own eStr (by rw [hpl]; exact hown)
      obtain ⟨A4, c4, rfl, hc4, hr4, hA4⟩ := hfr
      rw [hpl] at hc4 ⊢
      have hin : ∀ x ∈ partsL ⟨M, H, S, G⟩ ws, StrIn 100000000000 x := fun x hx => by
        obtain ⟨m, hm, rfl⟩ := List.mem_map.1 hx
        have := massesL_bd (unhide HH).2 m0 m hm
        exact partOf_in (unhide HH).1 this.1 this.2
      have hsum := hide (sum_any A4 c4 (partsL ⟨M, H, S, G⟩ ws) (by omega) hin wr hr4)
      rw [hpl] at hsum
      have HR4 := hide hr4
      have HPL := hide hpl
      have q0 : RowIs wr w.heap.size #[.int .i64 M, .int .i64 H, .int .i64 S, .int .i64 G] := hs0.below BW.out (by omega)
      have q1 : RowIs wr (w.heap.size + 1) #[.int .i64 0, .int .i64 0, .int .i64 0] := hs1.below BW.out (by omega)
      have hBwr : Below w.heap.size w wr := hBW.trans (BW.out.mono (by omega))
      have hsin := sumStr_in hin
      rw [unhide HPL] at hsin
      have HA4 := hide hA4
      have HLO := hide (show lostL ⟨M, H, S, G⟩ ws = ⟨H - (sumStr (partsL ⟨M, H, S, G⟩ ws)).H, S - (sumStr (partsL ⟨M, H, S, G⟩ ws)).S, G - (sumStr (partsL ⟨M, H, S, G⟩ ws)).G⟩ from rfl)
      clear etk hpl hr4 hin hown hA4
      generalize sumStr (partsL ⟨M, H, S, G⟩ ws) = T at *
      obtain ⟨X1, X2, X3, X4⟩ := T
      obtain ⟨t1, t2, t3, t4, t5, t6, t7, t8⟩ := hsin
      dsimp only at t1 t2 t3 t4 t5 t6 t7 t8
      have hw1 : IntKind.i64.wrap (H - X2) = H - X2 := by rw [IntKind.wrap_i64]; omega
      have hw2 : IntKind.i64.wrap (S - X3) = S - X3 := by rw [IntKind.wrap_i64]; omega
      have hw3 : IntKind.i64.wrap (G - X4) = G - X4 := by rw [IntKind.wrap_i64]; omega
      clear t1 t2 t3 t4 t5 t6 t7 t8
      go_wp2_with (go_at_call 71; refine (unhide hsum).mono ?_; rintro e w8 ⟨rfl, hb8⟩; obtain ⟨u8, rfl, r80, r81, hb88, hr8⟩ := graft2 (fun W => Below w.heap.size w W ∧ Rds eStr W W.heap.size A4 (partsL ⟨M, H, S, G⟩ ws)) (q0.below hb8 q0.lt) (q1.below hb8 q1.lt) ⟨hBwr.trans (hb8.mono hBwr.size), (unhide HR4).later hb8⟩; clear hb8; have z80 := r80.lt; have z81 := r81.lt)
      have hr8' := hide hr8
      clear hr8 hsum q0 q1
      go_region_held3 (fun W => W.cell? ⟨w.heap.size, 1, none⟩ = some (.int .i64 H) ∧ W.cell? ⟨w.heap.size, 2, none⟩ = some (.int .i64 S) ∧ W.cell? ⟨w.heap.size, 3, none⟩ = some (.int .i64 G) ∧ W.cell? ⟨u8.heap.size, 1, none⟩ = some (.int .i64 X2) ∧ W.cell? ⟨u8.heap.size, 2, none⟩ = some (.int .i64 X3) ∧ W.cell? ⟨u8.heap.size, 3, none⟩ = some (.int .i64 X4)) (go_simp) (fail)
      all_goals
        go_wp2_with fail
        refine bodyPost_ret (v := .tuple #[.slice A4 ws.length c4, .agg #[.int .i64 (H - X2), .int .i64 (S - X3), .int .i64 (G - X4)], .int .i64 0]) (by simp [results, Try.results28, go_sem, r81, z81]) rfl ⟨.slice A4 ws.length c4, by rw [unhide HLO], ⟨A4, c4, by rw [unhide HPL], by rw [unhide HPL]; exact hc4, ?_, fun b o e => by have := unhide HA4 b o e; omega⟩, ?_⟩
        · have h1 := ((unhide hr8').setRow (g := w.heap.size) #[.int .i64 M, .int .i64 H, .int .i64 S, .int .i64 G] (fun b o e => by have := unhide HA4 b o e; omega)).setRow (g := w.heap.size + 1) #[.int .i64 (H - X2), .int .i64 (S - X3), .int .i64 (G - X4)] (fun b o e => by have := unhide HA4 b o e; omega)
          have h2 := Rds.later (w' := ((((u8.setRow w.heap.size #[.int .i64 M, .int .i64 H, .int .i64 S, .int .i64 G]).setRow (w.heap.size + 1) #[.int .i64 (H - X2), .int .i64 (S - X3), .int .i64 (G - X4)]).alloc (.cells #[.int .i64 X1, .int .i64 X2, .int .i64 X3, .int .i64 X4] 42)).drew)) (by simpa using h1) (((Below.refl _ _).alloc (Nat.le_refl _) _).drew)
          exact h2
        · exact ((belowRow (belowRow hb88 (Nat.le_refl _) _) (by omega) _).alloc (by simpa using hb88.size) _).drew
end Go.Proofs.Ytenpbiineblcjaa
