/-
  Contract of package steam: Saturation. For every table and temperature.
-/
import Derived.Test.YtenpbiineblcjaaSteamD
import Derived.Test.YtenpbiineblcjaaSteamSat
import Derived.Test.YtenpbiineblcjaaSteamIx
import Derived.Shelf.GgClosure.Gives
namespace Go.Proofs.Ytenpbiineblcjaa
open Go.RowKit Go.Shelf

theorem within_any' (n lo hi : Int) (w : World) :
    Calls Try.prog 65 #[.int .i64 n, .int .i64 lo, .int .i64 hi] w fun e w' => e = .returned (.bool (inB n lo hi)) ∧ w' = w :=
  (within_any n lo hi w).mono fun _ _ ⟨h, h'⟩ => ⟨h, h'.symm⟩

theorem asksSat (temp : Int) (w : World) (B : Nat) (hc : w.cell? ⟨B, 0, none⟩ = some (.int .i64 temp)) (hB : B < w.heap.size) :
    Asks Try.prog 75 #[.pointer (some ⟨B, 0, none⟩)] eRow Vagg (fun _ => True) (fun r => decide (temp ≤ r.T)) w := by
  intro W x _ hb
  have hc' := (hb.cell (p := ⟨B, 0, none⟩) hB).trans hc
  have hB' : B < W.heap.size := Nat.lt_of_lt_of_le hB hb.size
  clear hc
  obtain ⟨T, P, L, V, S⟩ := x
  change Calls Try.prog 75 #[.agg #[.int .i64 T, .int .i64 P, .int .i64 L, .int .i64 V, .int .i64 S], .pointer (some ⟨B, 0, none⟩)] W _
  go_enter Try.func75, Try.ntmps75
  go_wp2
  go_ret
  exact ⟨rfl, (Below.refl _ _).alloc (Nat.le_refl _) _⟩

set_option maxHeartbeats 1600000 in
theorem saturation_any (A : Option Addr) (c : Nat) (t : List RowT) (temp : Int) (hn : t.length ≤ 9223372036854775807) (hc : t.length ≤ c) (w : World) (hr : Rds eRow w w.heap.size A t) :
    Calls Try.prog 41 #[.slice A t.length c, .int .i64 temp] w fun e w' => e = .returned (.tuple #[.agg #[.int .i64 (satR t temp).1.1, .int .i64 (satR t temp).1.2], .int .i64 (satR t temp).2]) ∧ Below w.heap.size w w' := by
  have hv := hide (fun (W : World) (hb : Below w.heap.size w W) => valid_any A c t hn hc W (hr.later hb))
  cases ht : tabOk t with
  | false =>
    rw [ht] at hv
    have HF := Lib.hid (show satR t temp = ((0, 0), 1) by simp [satR, ht])
    clear ht hr
    go_enter Try.func41, Try.ntmps41
    go_wp2_with (go_at_call 56; refine (unhide hv _ (((Below.refl _ _).alloc (Nat.le_refl _) _).alloc (by simp) _)).mono ?_; rintro e w1 ⟨rfl, hb1⟩; obtain ⟨u, rfl, r0, r1, hb⟩ := new2 hb1; clear hb1; have z0 := r0.lt; have z1 := r1.lt)
    refine bodyPost_ret (v := .tuple #[.agg #[.int .i64 0, .int .i64 0], .int .i64 1]) (by simp [results, Try.results41, go_sem, r1]) rfl ⟨by rw [HF.out], ?_⟩
    exact belowRow (belowRow hb (by simp) _) (by simp) _
  | true =>
    rw [ht] at hv
    obtain ⟨l2, l20⟩ := tabOk_len ht
    have hg0 := rowAt_get (t := t) (level := 0) (by omega) (by omega)
    have hg1 := rowAt_get (t := t) (level := t.length - 1) (by omega) (by omega)
    have e1 : ((t.length : Int) - 1).toNat = t.length - 1 := by omega
    rw [e1] at hg1
    obtain ⟨b, o, rfl, hbB, hcells⟩ := hr (by omega)
    have hr' : Rds eRow w w.heap.size (some ⟨b, o, none⟩) t := fun _ => ⟨b, o, rfl, hbB, hcells⟩
    clear hcells hr
    obtain ⟨_, _, e2, _, f0, _, _, _, _⟩ := rdsRow hr' hg0
    cases e2
    obtain ⟨_, _, e2, _, g0, _, _, _, _⟩ := rdsRow hr' hg1
    cases e2
    have f0' : w.cell? ⟨b, o, none⟩ = some (.int .i64 (rowAt t 0).T) := by simpa using f0
    clear f0 hg0 hg1 e1
    have hl1 : (0 : Int) ≤ (t.length : Int) - 1 := by omega
    have hl2 : (t.length : Int) - 1 < t.length := by omega
    have hl3 : (0 : Int) < t.length := by omega
    have hne0 : b ≠ w.heap.size := by omega
    have hne1 : b ≠ w.heap.size + 1 := by omega
    have hl4 : 0 < t.length := by omega
    have hl5 : (1 : Int) ≤ t.length := by omega
    have hw1 : IntKind.i64.wrap ((t.length : Int) - 1) = t.length - 1 := by rw [IntKind.wrap_i64]; omega
    have ht1 : ((t.length : Int) - 1).toNat = t.length - 1 := by omega
    cases hin : inB temp (rowAt t 0).T (rowAt t (t.length - 1)).T with
    | false =>
      have HF := Lib.hid (show satR t temp = ((0, 0), 2) by simp [satR, ht, hin])
      clear ht
      generalize (rowAt t 0).T = T0 at *
      generalize (rowAt t (t.length - 1)).T = T1 at *
      go_enter Try.func41, Try.ntmps41
      go_wp2_with (go_at_call 56; refine (unhide hv _ (((Below.refl _ _).alloc (Nat.le_refl _) _).alloc (by simp) _)).mono ?_; rintro e w1 ⟨rfl, hb1⟩; obtain ⟨u, rfl, r0, r1, hb⟩ := new2 hb1; clear hb1; have z0 := r0.lt; have z1 := r1.lt; obtain ⟨hc1, hf1⟩ := bcell hb)
      go_quiet ((go_at_call 65; exact Calls.quiet_of_same (within_any' _ _ _ _)))
      go_wp2
      refine bodyPost_ret (v := .tuple #[.agg #[.int .i64 0, .int .i64 0], .int .i64 2]) (by simp [results, Try.results41, go_sem, r1]) rfl ⟨by rw [HF.out], ?_⟩
      exact below_drewN' (belowRow (belowRow hb (by simp) _) (by simp) _) _
    | true =>
      obtain ⟨i0, i1⟩ := inB_iff.1 hin
      obtain ⟨k, x, y, hk, hk1, hx, hy, hx1, hy1, hxy, bx, byy, _⟩ := satK_spec ht i0 i1
      obtain ⟨n0, n1, n2, n3, n4, n5⟩ := satN_bd bx byy hx1 hy1 hxy
      have eL : ∀ args w, (callFunc 75 args).run Try.prog w = .ok (.enter 75 args) w := enters_of Try.func75 (by kernel_rfl) rfl
      have hix : Hid (∀ W : World, Below w.heap.size w W → W.cell? ⟨w.heap.size, 0, none⟩ = some (.int .i64 temp) → w.heap.size < W.heap.size →
          Calls Try.prog 74 #[.slice (some ⟨b, o + 5, none⟩) (t.length - 1) (c - 1), .func (.func 75) #[] #[.pointer (some ⟨w.heap.size, 0, none⟩)]] W fun e w' => e = .returned (.int .i64 k) ∧ Below W.heap.size W w') := by
        intro W hb hcell hlt
        have h := indexTab (some ⟨b, o + 5, none⟩) (c - 1) (t.drop 1) _ _ 75 _ eL W ((hr'.drop 1).later hb) (by simp; omega) (fun _ _ => trivial) (asksSat temp W w.heap.size hcell hlt)
        rw [List.length_drop] at h
        have e3 := hk
        rw [satK] at e3
        rw [e3] at h
        exact h
      clear eL
      have HF := Lib.hid (show satR t temp = ((satN x y temp / Nat.gcd (satN x y temp).toNat (y.T - x.T).toNat, (y.T - x.T) / Nat.gcd (satN x y temp).toNat (y.T - x.T).toNat), 0) by
        have ex : rowAt t (k : Int) = x := by simp [rowAt, List.getD_eq_getElem?_getD, hx]
        have ey : rowAt t ((k : Int) + 1) = y := by
          have : ((k : Int) + 1).toNat = k + 1 := by omega
          simp [rowAt, List.getD_eq_getElem?_getD, this, hy]
        simp only [satR, ht, hin, hk, ex, ey]
        simp)
      have HIN := Lib.hid hin
      clear ht
      obtain ⟨_, _, e2, _, x0, x1, x2, x3, x4⟩ := rdsRow hr' hx
      cases e2
      obtain ⟨_, _, e2, _, y0, y1, y2, y3, y4⟩ := rdsRow hr' hy
      cases e2
      clear hk hx hy hr'
      generalize (rowAt t 0).T = T0 at *
      generalize (rowAt t (t.length - 1)).T = T1 at *
      have hk2 : (0 : Int) ≤ (k : Int) + 1 := by omega
      have hk3 : (k : Int) < t.length := by omega
      have hk4 : (k : Int) + 1 < t.length := by omega
      have hc1 : ¬ c = 1 := by omega
      have hw2 : IntKind.i64.wrap ((k : Int) + 1) = k + 1 := by rw [IntKind.wrap_i64]; omega
      have ht2 : ((k : Int) + 1).toNat = k + 1 := by omega
      unfold satN at *
      have hA1 := bx.t0; have hA2 := bx.t1; have hA3 := byy.t0; have hA4 := byy.t1
      obtain ⟨T, P, L, V, S⟩ := x
      obtain ⟨T', P', L', V', S'⟩ := y
      dsimp only at *
      have hq1 : IntKind.i64.wrap (T' - temp) = T' - temp := by rw [IntKind.wrap_i64]; omega
      have hq2 : IntKind.i64.wrap (temp - T) = temp - T := by rw [IntKind.wrap_i64]; omega
      have hq3 : IntKind.i64.wrap (P * (T' - temp)) = P * (T' - temp) := by rw [IntKind.wrap_i64]; omega
      have hq4 : IntKind.i64.wrap (P' * (temp - T)) = P' * (temp - T) := by rw [IntKind.wrap_i64]; omega
      have hq5 : IntKind.i64.wrap (P * (T' - temp) + P' * (temp - T)) = P * (T' - temp) + P' * (temp - T) := by rw [IntKind.wrap_i64]; omega
      have hq6 : IntKind.i64.wrap (T' - T) = T' - T := by rw [IntKind.wrap_i64]; omega
      have hgp : 0 < Nat.gcd (P * (T' - temp) + P' * (temp - T)).toNat (T' - T).toNat := Nat.gcd_pos_of_pos_left _ (by omega)
      have hgc := hide (fun W => gcd_int (P * (T' - temp) + P' * (temp - T)) (T' - T) (by omega) (by omega) (by omega) (by omega) W)
      generalize hgg : Nat.gcd (P * (T' - temp) + P' * (temp - T)).toNat (T' - T).toNat = g at *
      clear hgg
      have hg1 : ¬ (g : Int) = 0 := by omega
      have hg2 : (1 : Int) ≤ g := by omega
      have hd0 : 0 ≤ T' - T := by omega
      have hd1 : T' - T ≤ 400 := by omega
      have hg3 : ¬ g = 0 := by omega
      have hqd : ∀ x : Int, 0 ≤ x → x ≤ 8000000 → IntKind.i64.wrap (x.tdiv g) = x / g := fun x h0 h1 => by
        rw [Int.tdiv_eq_ediv_of_nonneg h0, IntKind.wrap_i64]
        have := Int.ediv_nonneg h0 (show (0 : Int) ≤ g by omega)
        have := Int.ediv_le_self (g : Int) h0
        omega
      have hq7 := hqd _ (by omega) n1
      have hq8 := hqd _ hd0 (by omega)
      clear hqd
      go_enter Try.func41, Try.ntmps41
      go_wp2_with (go_at_call 56; refine (unhide hv _ (((Below.refl _ _).alloc (Nat.le_refl _) _).alloc (by simp) _)).mono ?_; rintro e w1 ⟨rfl, hb1⟩; obtain ⟨u, rfl, r0, r1, hb⟩ := new2 hb1; clear hb1; have z0 := r0.lt; have z1 := r1.lt; obtain ⟨hc1, hf1⟩ := bcell hb)
      go_quiet ((go_at_call 65; exact Calls.quiet_of_same (within_any' _ _ _ _)))
      have hbB2 : b < u.heap.size := by omega
      have hW : Below w.heap.size w (((u.setRow w.heap.size #[.int .i64 temp]).setRow (w.heap.size + 1) #[.int .i64 0, .int .i64 0]).drewN nq) := belowRow (belowRow (below_drewN' hb _) (by simp) _) (by simp) _
      clear hc1 hf1
      go_wp2_with (go_at_call 74; refine (unhide hix _ hW (by simp [go_sem, r0]) (by simpa using z0)).mono ?_; rintro e w2 ⟨rfl, hb2⟩; obtain ⟨u', rfl, r0', r1', hb'⟩ := regraft2 (((RowIs.same r0 _).other (by simp) _).drewN _) ((RowIs.same (r1.setRow _ _) _).drewN _) hW hb2; clear hb2 hW; have z0' := r0'.lt; have z1' := r1'.lt)
      obtain ⟨hc2, hf2⟩ := bcell hb'
      have hbB3 : b < u'.heap.size := by omega
      clear hix hbB2 hb r0 r1 z0 z1
      go_region_held3 (fun W => W.cell? ⟨b, o + k * 5, none⟩ = some (.int .i64 T) ∧ W.cell? ⟨b, o + k * 5 + 1, none⟩ = some (.int .i64 P) ∧ W.cell? ⟨b, o + k * 5 + 2, none⟩ = some (.int .i64 L) ∧ W.cell? ⟨b, o + k * 5 + 3, none⟩ = some (.int .i64 V) ∧ W.cell? ⟨b, o + k * 5 + 4, none⟩ = some (.int .i64 S) ∧
        W.cell? ⟨b, o + (k + 1) * 5, none⟩ = some (.int .i64 T') ∧ W.cell? ⟨b, o + (k + 1) * 5 + 1, none⟩ = some (.int .i64 P') ∧ W.cell? ⟨b, o + (k + 1) * 5 + 2, none⟩ = some (.int .i64 L') ∧ W.cell? ⟨b, o + (k + 1) * 5 + 3, none⟩ = some (.int .i64 V') ∧ W.cell? ⟨b, o + (k + 1) * 5 + 4, none⟩ = some (.int .i64 S')) (go_simp) (fail)
      all_goals
        rename_i hh
        clear hh
        go_wp2_with fail
        go_quiet (fail)
        go_wp2_with fail
        refine (unhide hgc _).mono ?_
        rintro e w5 ⟨rfl, hb5⟩
        obtain ⟨v, rfl, q1, hbv⟩ := regraft1 ((((RowIs.same (r1'.setRow _ _) _).alloc _).alloc _).drewN _) (below_drewN' (((belowRow (belowRow hb' (by simp) _) (by simp) _).alloc (by simpa using hb'.size) _).alloc (by have := hb'.size; simp; omega) _) _) hb5
        clear hb5
        have z5 := q1.lt
        go_wp2_with fail
        go_region_held3 (fun _ => True) (trivial) (fail)
        go_wp2_with fail
        refine bodyPost_ret (v := .tuple #[.agg #[.int .i64 ((P * (T' - temp) + P' * (temp - T)) / g), .int .i64 ((T' - T) / g)], .int .i64 0]) (by simp [results, Try.results41, go_sem, q1]) rfl ⟨by rw [HF.out], ?_⟩
        exact Below.drew (belowRow hbv (by simp) _)
end Go.Proofs.Ytenpbiineblcjaa
