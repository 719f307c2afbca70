/-
  Contract of masses: what parts get of a mass, at valid weights and a mass from 0 to 1000000.
-/
import Derived.Test.YtenpbiineblcjaaShare
import Derived.Deep.OwnRows
namespace Go.Proofs.Ytenpbiineblcjaa
open Go.RowKit Go.Shelf

theorem massKey (mass : Int) (ws : List Int) (B0 B1 : Nat) (h : WtsB ws) (m0 : 0 ≤ mass) (m1 : mass ≤ 1000000) (W : World) (c0 : W.cell? ⟨B0, 0, none⟩ = some (.int .i64 mass)) (c1 : W.cell? ⟨B1, 0, none⟩ = some (.int .i64 (sumI ws))) (x : Int) (hx : x ∈ ws) :
    Calls Try.prog 88 #[.int .i64 x, .pointer (some ⟨B0, 0, none⟩), .pointer (some ⟨B1, 0, none⟩)] W fun e w' => e = .returned (.int .i64 (remKey mass ws x)) ∧ Below W.heap.size W w' := by
  obtain ⟨w1, w2⟩ := h.whole
  obtain ⟨x0, x1⟩ := h.all x hx
  obtain ⟨p0, p1⟩ := mul_bd m0 m1 x0 x1
  unfold remKey
  generalize sumI ws = wh at *
  clear h hx
  have hz : ¬ wh = 0 := by omega
  go_enter Try.func88, Try.ntmps88
  go_wp2
  go_ret
  exact ⟨rfl, Below.refl _ _⟩

set_option maxHeartbeats 1600000 in
theorem masses_any (mass : Int) (A : Option Addr) (c : Nat) (ws : List Int) (h : WtsB ws) (m0 : 0 ≤ mass) (m1 : mass ≤ 1000000) (w : World) (hr : Rds eInt w w.heap.size A ws) :
    Calls Try.prog 69 #[.int .i64 mass, .slice A ws.length c] w fun e w' => ∃ v, e = .returned v ∧ FreshInts w.heap.size w' v (massesL mass ws) ∧ Below w.heap.size w w' := by
  have hlen := h.len
  have HALL := hide (And.intro h hr)
  have hall : ∀ (k : Nat) (x : Int), ws[k]? = some x → 0 ≤ x ∧ x ≤ 1000 := fun k x hx => h.all x (List.mem_of_getElem? hx)
  have hsum : ∀ k : Nat, 0 ≤ sumI (ws.take k) ∧ sumI (ws.take k) ≤ 20000 := fun k => ⟨sumI_nonneg fun x hx => (h.all x (List.mem_of_mem_take hx)).1, Int.le_trans (sumI_take_le (fun x hx => (h.all x hx).1) k) h.whole.2⟩
  have HA := hide hall
  have HS := hide hsum
  clear h hr hall hsum
  go_enter Try.func69, Try.ntmps69
  go_wp2_with fail
  go_loopg [7, 16] ws.length (fun gg _ s16 wr => ∃ k : Nat, k ≤ ws.length ∧ ws.length - k ≤ gg ∧ s16 = .int .i64 k ∧ wr = (w.alloc (.cells #[.int .i64 mass] 3)).alloc (.cells #[.int .i64 (sumI (ws.take k))] 3))
  case atStart => exact ⟨0, Nat.zero_le _, by omega, rfl, rfl⟩
  case round =>
    obtain ⟨k, hk, hg, rfl, rfl⟩ := hrel
    by_cases hlt : k < ws.length
    · have hx : ws[k]? = some ws[k] := List.getElem?_eq_getElem hlt
      obtain ⟨b, o, rfl, hb, c0⟩ := rdsInt (unhide HALL).2 hx
      obtain ⟨x0, x1⟩ := unhide HA k _ hx
      have hs0 := unhide HS k
      have htk : ws.take (k + 1) = ws.take k ++ [ws[k]] := by rw [List.take_add_one, hx]; rfl
      generalize ws[k] = x at *
      have HT := hide htk
      clear htk hx
      obtain ⟨s0, s1⟩ := hs0
      go_wp2_with fail
      go_roundg (ws.length - (k + 1))
      case measure => omega
      case rel => exact ⟨k + 1, by omega, by omega, by go_num, by rw [unhide HT, sumI_snoc]⟩
    · obtain rfl : k = ws.length := by omega
      rw [List.take_length]
      obtain ⟨w1, w2⟩ := (unhide HALL).1.whole
      clear HS
      have hmk := run_make_row' (P := Try.prog) 51 3 (.int .i64 0) 8 Try.underlying51 int_info rfl .i64 .i64 ws.length (by omega) (by omega)
      go_wp2_with fail
      go_region_held3 (fun W => W.cell? ⟨w.heap.size, 0, none⟩ = some (.int .i64 mass)) (go_simp) (fail)
      go_wp2_with fail
      clear hmk
      have h : WtsB ws := (unhide HALL).1
      have HB := hide (fun k => baseL_part h m0 k)
      have HL := hide (left_bd h m0)
      clear h
      go_loopg [9, 10, 11, 30] ws.length (fun gg s9 _ _ s30 wr => ∃ k : Nat, k ≤ ws.length ∧ ws.length - k ≤ gg ∧ s30 = .int .i64 k ∧ s9 = .int .i64 (mass - sumI ((baseL mass ws).take k)) ∧
        wr = (((w.alloc (.cells #[.int .i64 mass] 3)).alloc (.cells #[.int .i64 (sumI ws)] 3)).alloc (.cells (vIs [] (outK mass ws k)) 3)).drew)
      case atStart =>
        refine ⟨0, Nat.zero_le _, by omega, rfl, by simp [sumI], ?_⟩
        have e : madeCells #[.int .i64 0] ws.length = vIs [] (outK mass ws 0) := by
          apply Array.toList_inj.1
          rw [toList_madeCells_one]
          simp [vIs, outK]
        rw [e]
      case round =>
        obtain ⟨k, hk, hg, rfl, rfl, rfl⟩ := hrel
        by_cases hlt : k < ws.length
        · have hx : ws[k]? = some ws[k] := List.getElem?_eq_getElem hlt
          obtain ⟨b, o, rfl, hb, c0⟩ := rdsInt (unhide HALL).2 hx
          obtain ⟨x0, x1⟩ := unhide HA k _ hx
          obtain ⟨p0, p1⟩ := mul_bd m0 m1 x0 x1
          obtain ⟨q0, q1⟩ := base_bd (unhide HALL).1 m0 (List.mem_of_getElem? hx)
          obtain ⟨s0, s1⟩ := unhide HB k
          have hset : (vIs [] (outK mass ws k)).setIfInBounds k (.int .i64 (mass * ws[k] / sumI ws)) = vIs [] (outK mass ws (k + 1)) := by rw [vIs_set _ _ _ _ (by rw [outK_length hk]; exact hlt), outK_set hlt]
          have hget : (vIs [] (outK mass ws k))[k]? = some (.int .i64 0) := by rw [vIs_get _ _ _ (by rw [outK_length hk]; exact hlt), outK_get hlt]; rfl
          have hget' : (vIs [] (outK mass ws (k + 1)))[k]? = some (.int .i64 (mass * ws[k] / sumI ws)) := by
            rw [vIs_get _ _ _ (by rw [outK_length (by omega)]; exact hlt), ← outK_set hlt, List.getElem?_set_self (by rw [outK_length hk]; exact hlt)]; rfl
          have htk : sumI ((baseL mass ws).take (k + 1)) = sumI ((baseL mass ws).take k) + mass * ws[k] / sumI ws := by
            have hb' : (baseL mass ws)[k]? = some (mass * ws[k] / sumI ws) := by simp [baseL, hlt]
            rw [List.take_add_one, hb', ← sumI_snoc]; rfl
          generalize ws[k] = x at *
          have HT := hide htk
          clear htk hx
          generalize hS : sumI ((baseL mass ws).take k) = S at *
          generalize hL0 : outK mass ws k = L0 at *
          generalize hL1 : outK mass ws (k + 1) = L1 at *
          generalize hwh : sumI ws = wh at *
          have H1 := hide hL1
          have H2 := hide hwh
          have H3 := hide hS
          clear hL0 hL1 hwh hS
          have hz : ¬ wh = 0 := by omega
          have hb1 : b < w.heap.size + 1 := by omega
          have hb2 : b < w.heap.size + 1 + 1 := by omega
          have k2 : (k : Int) < ws.length := by omega
          go_wp2_with fail
          go_roundg (ws.length - (k + 1))
          case measure => omega
          case rel => exact ⟨k + 1, by omega, by omega, by go_num, by rw [unhide HT]; congr 1; omega, by rw [unhide H1]⟩
        · obtain rfl : k = ws.length := by omega
          have ek : outK mass ws ws.length = baseL mass ws := by simp [outK, List.take_of_length_le, baseL_length]
          rw [ek, List.take_of_length_le (by rw [baseL_length]; exact Nat.le_refl _)]
          clear ek
          have h : WtsB ws := (unhide HALL).1
          have hr := (unhide HALL).2
          obtain ⟨W2, hW2⟩ : ∃ W2, W2 = (((w.alloc (.cells #[.int .i64 mass] 3)).alloc (.cells #[.int .i64 (sumI ws)] 3)).alloc (.cells (vIs [] (baseL mass ws)) 3)).drew := ⟨_, rfl⟩
          have hBW : Below w.heap.size w W2 := by rw [hW2]; exact ((((Below.refl _ _).alloc (Nat.le_refl _) _).alloc (by simp) _).alloc (by simp; omega) _).drew
          have hb0 : W2.cell? ⟨w.heap.size, 0, none⟩ = some (.int .i64 mass) := by rw [hW2]; go_simp
          have hb1 : W2.cell? ⟨w.heap.size + 1, 0, none⟩ = some (.int .i64 (sumI ws)) := by rw [hW2]; go_simp
          have hb2 : RowIs W2 (w.heap.size + 1 + 1) (vIs [] (baseL mass ws)) := by
            rw [hW2]
            have := RowIs.new ((w.alloc (.cells #[.int .i64 mass] 3)).alloc (.cells #[.int .i64 (sumI ws)] 3)) (vIs [] (baseL mass ws)) 3
            simpa using this.drew
          have hsz : w.heap.size + 3 ≤ W2.heap.size := by rw [hW2]; simp
          have eK : ∀ args w, (callFunc 88 args).run Try.prog w = .ok (.enter 88 args) w := enters_of Try.func88 (by kernel_rfl) rfl
          have hrank := hide (ranked_any A c ws 88 #[.pointer (some ⟨w.heap.size, 0, none⟩), .pointer (some ⟨w.heap.size + 1, 0, none⟩)] eK (fun x => x ∈ ws) (remKey mass ws) W2 hlen (hr.later hBW) (fun x hx => hx)
            (fun x hx => by
              obtain ⟨w1, w2⟩ := h.whole
              have a := Int.emod_nonneg (mass * x) (show sumI ws ≠ 0 by omega)
              have b := Int.emod_lt_of_pos (mass * x) (show 0 < sumI ws by omega)
              unfold remKey
              omega)
            (fun W x hx hb => massKey mass ws w.heap.size (w.heap.size + 1) h m0 m1 W ((hb.cell (p := ⟨w.heap.size, 0, none⟩) (by show w.heap.size < W2.heap.size; omega)).trans hb0) ((hb.cell (p := ⟨w.heap.size + 1, 0, none⟩) (by show w.heap.size + 1 < W2.heap.size; omega)).trans hb1) x hx))
          clear eK hb0 hb1 hr h
          rw [← hW2]
          have HW2 := hide hW2
          clear hW2
          obtain ⟨L, hL⟩ : ∃ L : Nat, leftL mass ws = L := ⟨(leftL mass ws).toNat, by have := (unhide HL).1; omega⟩
          have hLn : L < ws.length := by have := (unhide HL).2; omega
          have hL' : mass - sumI (baseL mass ws) = L := hL
          rw [hL']
          have HLL := hide hL
          clear hL hL'
          go_wp2_with fail
          refine (unhide hrank).mono ?_
          rintro e w3 ⟨v, rfl, hfresh, hb3⟩
          clear hrank
          rcases hfresh with ⟨h0, _⟩ | ⟨g, cap, sp, rfl, hg1, hg2, hg3⟩
          · exact absurd (congrArg List.length h0) (by rw [rankL_length]; show ¬ ws.length = 0; omega)
          · rw [rankL_length] at hg2 ⊢
            have hb2' := hb2.below hb3 hb2.lt
            obtain ⟨u, rfl, hu, hBu, hRu⟩ := graft1 (fun W => Below w.heap.size w W ∧ RowIs W g (vIs sp (rankL (remKey mass ws) ws))) hb2' ⟨hBW.trans (hb3.mono hBW.size), hg3⟩
            have hgne : g ≠ w.heap.size + 1 + 1 := by omega
            have hLc : (L : Int) ≤ cap := by omega
            have hL0 : (0 : Int) ≤ L := by omega
            have hLc' : L ≤ cap := by omega
            clear hg3 hb3 hb2' hb2
            go_wp2_with fail
            go_loopg [13, 56] L (fun gg _ s56 wr => ∃ j : Nat, j ≤ L ∧ L - j ≤ gg ∧ s56 = .int .i64 j ∧ wr = u.setRow (w.heap.size + 1 + 1) (vIs [] (((rankL (remKey mass ws) ws).take j).foldl bump (baseL mass ws))))
            case atStart => exact ⟨0, Nat.zero_le _, by omega, rfl, rfl⟩
            case round =>
              obtain ⟨j, hj, hgj, rfl, rfl⟩ := hrel
              by_cases hlt : j < L
              · have hrl := rankL_length (remKey mass ws) ws
                have hx : (rankL (remKey mass ws) ws)[j]? = some ((rankL (remKey mass ws) ws)[j]'(by omega)) := List.getElem?_eq_getElem _
                obtain ⟨i0', i1⟩ := rankL_mem (List.mem_of_getElem? hx)
                have htk : (rankL (remKey mass ws) ws).take (j + 1) = (rankL (remKey mass ws) ws).take j ++ [(rankL (remKey mass ws) ws)[j]'(by omega)] := by rw [List.take_add_one, hx]; rfl
                generalize (rankL (remKey mass ws) ws)[j]'(by omega) = x at *
                obtain ⟨i, rfl⟩ := Int.eq_ofNat_of_zero_le i0'
                have hcell : u.cell? ⟨g, j, none⟩ = some (.int .i64 (i : Int)) := by
                  obtain ⟨tt, hR⟩ := hRu
                  rw [cell_of_row u g j _ _ _ hR, vIs_get _ _ _ (by omega), hx]
                  rfl
                have hcl : (((rankL (remKey mass ws) ws).take j).foldl bump (baseL mass ws)).length = ws.length := by rw [foldl_bump_length, baseL_length]
                have hin : i < ws.length := by omega
                have hcy : (((rankL (remKey mass ws) ws).take j).foldl bump (baseL mass ws))[i]? = some ((((rankL (remKey mass ws) ws).take j).foldl bump (baseL mass ws))[i]'(by omega)) := List.getElem?_eq_getElem _
                have hbd := foldl_bump_bd ((rankL (remKey mass ws) ws).take j) (baseL mass ws) mass (baseL_bd (unhide HALL).1 m0) m0 _ (List.mem_of_getElem? hcy)
                have hbump : bump (((rankL (remKey mass ws) ws).take j).foldl bump (baseL mass ws)) i = (((rankL (remKey mass ws) ws).take j).foldl bump (baseL mass ws)).set i ((((rankL (remKey mass ws) ws).take j).foldl bump (baseL mass ws))[i]'(by omega) + 1) := by
                  rw [bump, Int.toNat_natCast, List.getD_eq_getElem?_getD, hcy]; rfl
                have hget : (vIs [] (((rankL (remKey mass ws) ws).take j).foldl bump (baseL mass ws)))[i]? = some (.int .i64 ((((rankL (remKey mass ws) ws).take j).foldl bump (baseL mass ws))[i]'(by omega))) := by rw [vIs_get _ _ _ (by omega), hcy]; rfl
                have hset : (vIs [] (((rankL (remKey mass ws) ws).take j).foldl bump (baseL mass ws))).setIfInBounds i (.int .i64 ((((rankL (remKey mass ws) ws).take j).foldl bump (baseL mass ws))[i]'(by omega) + 1)) = vIs [] (bump (((rankL (remKey mass ws) ws).take j).foldl bump (baseL mass ws)) i) := by rw [vIs_set _ _ _ _ (by omega), hbump]
                generalize (((rankL (remKey mass ws) ws).take j).foldl bump (baseL mass ws))[i]'(by omega) = y at *
                have hfold : ((rankL (remKey mass ws) ws).take (j + 1)).foldl bump (baseL mass ws) = bump (((rankL (remKey mass ws) ws).take j).foldl bump (baseL mass ws)) i := by rw [htk, List.foldl_append]; rfl
                obtain ⟨d0, d1⟩ := hbd
                have d2 : ((List.take j (rankL (remKey mass ws) ws)).length : Int) ≤ 20 := by rw [List.length_take]; omega
                have d3 : y ≤ 1000020 := by omega
                have HF := hide hfold
                clear hfold htk hx d1 d2 hbump hcy hcl hrl
                generalize hcur : ((rankL (remKey mass ws) ws).take j).foldl bump (baseL mass ws) = cur at *
                generalize hcur' : bump cur i = cur' at *
                have HC := hide hcur
                have HC' := hide hcur'
                clear hcur hcur'
                have hin' : (i : Int) < ws.length := by omega
                have hjL : (j : Int) < L := by omega
                go_wp2_with fail
                go_roundg (L - (j + 1))
                case measure => omega
                case rel => exact ⟨j + 1, by omega, by omega, by go_num, by rw [unhide HF]⟩
              · obtain rfl : j = L := by omega
                have e : ((rankL (remKey mass ws) ws).take j).foldl bump (baseL mass ws) = massesL mass ws := by rw [massesL, unhide HLL, Int.toNat_natCast]
                rw [e]
                clear e
                have hml := massesL_length mass ws
                have HML := hide hml
                clear hml
                go_wp2_with fail
                go_ret
                exact ⟨.slice (some ⟨w.heap.size + 1 + 1, 0, none⟩) ws.length ws.length, rfl, .inr ⟨_, _, [], by rw [unhide HML], by omega, by rw [unhide HML]; exact Nat.le_refl _, RowIs.same hu _⟩, belowRow hBu (by omega) _⟩
end Go.Proofs.Ytenpbiineblcjaa
