/-
  The walk of SteamWithin: it returns true for every table, level, mass, ranges and words, and leaves what lay as it lay.
-/
import Derived.Test.YtenpbiineblcjaaLBounds
namespace Go.Proofs.Ytenpbiineblcjaa
open Go.RowKit Go.Shelf

theorem flash_sc (f : RowT) (s : StrT) : (flashOf f s).scale = s.S - min s.S ((s.M - steamOf f s) * f.S) := by
  have h := flash_wa f s
  have h2 : (flashOf f s).wa.M = (splitOf f s).2.M := rfl
  rw [h2] at h
  show s.S - heldOf f s = _
  unfold heldOf
  rw [h]
theorem scale_mono {f : RowT} {s t : StrT} (hf : RowB f) (hs : StrB s) (hm : s.M = t.M) (hh : s.H ≤ t.H) (hS : s.S ≤ t.S) : (flashOf f s).scale ≤ (flashOf f t).scale := by
  rw [flash_sc, flash_sc]
  have h1 := steam_mono hf hs hm hh
  have h2 : (t.M - steamOf f t) * f.S ≤ (s.M - steamOf f s) * f.S := Int.mul_le_mul_of_nonneg_right (by omega) hf.s0
  omega

theorem pick_is (a b u : Int) (h0 : 0 ≤ a) (h1 : a ≤ b) (h2 : b ≤ 1000000000000) (u0 : 0 ≤ u) (u1 : u ≤ 4294967295) (w : World) :
    Calls Try.prog 40 #[.agg #[.int .i64 a, .int .i64 b], .int .u32 u] w fun e w' => e = .returned (.int .i64 (a + u % (b - a + 1))) ∧ Below w.heap.size w w' := by
  have e1 : IntKind.i64.wrap (b - a) = b - a := w64 (by omega) (by omega)
  have e2 : IntKind.i64.wrap (b - a + 1) = b - a + 1 := w64 (by omega) (by omega)
  have p0 : 0 < b - a + 1 := by omega
  have m0 := Int.emod_nonneg u (show b - a + 1 ≠ 0 by omega)
  have m1 := Int.emod_lt_of_pos u p0
  have e3 : IntKind.i64.wrap (a + u % (b - a + 1)) = a + u % (b - a + 1) := w64 (by omega) (by omega)
  have e4 : u.tmod (b - a + 1) = u % (b - a + 1) := Int.tmod_eq_emod_of_nonneg u0
  have e5 : IntKind.i64.wrap (u % (b - a + 1)) = u % (b - a + 1) := w64 (by omega) (by omega)
  have e6 : IntKind.i64.wrap u = u := w64 (by omega) (by omega)
  have e7 : (b - a + 1 == 0) = false := beq_eq_false_iff_ne.2 (by omega)
  go_enter Try.func40, Try.ntmps40
  go_wp2_with fail
  go_quiet (fail)
  go_wp2_with fail
  go_ret
  exact ⟨ret_int (by simp), Below.drewNs (Below.allocs (Below.refl _ _) _) _⟩


set_option maxRecDepth 100000 in
set_option maxHeartbeats 12800000 in
theorem lawWithin_any (A : Option Addr) (c : Nat) (t : List RowT) (lv mass hl hh sl sh u v : Int) (hn : t.length ≤ 9223372036854775807) (l0 : 0 ≤ lv) (l1 : lv ≤ 255) (u0 : 0 ≤ u) (u1 : u ≤ 4294967295) (v0 : 0 ≤ v) (v1 : v ≤ 4294967295) (w : World) (hr : Rds eRow w w.heap.size A t) :
    Calls Try.prog 9 #[.slice A t.length c, .int .u8 lv, .int .i64 mass, .agg #[.int .i64 hl, .int .i64 hh], .agg #[.int .i64 sl, .int .i64 sh], .int .u32 u, .int .u32 v] w fun e w' => e = .returned (.bool true) ∧ Below w.heap.size w w' := by
  have HK : Hid (kAnd (kRds eRow A t) (kUp w) w) := hide ⟨hr, Below.refl _ _⟩
  clear hr
  cases ht : tabOk t with
  | false =>
    have HT := hide ht
    clear ht
    go_enter Try.func9, Try.ntmps9
    go_wp2_with (first | (go_at_call 17; refine know_at (by (repeat (first | exact kk (unhide HK) | apply kkbox | apply kkdrew | apply kkdrewN | apply kkalloc))) (fun hKa => ?_); (try simp only [World.size_alloc] at hKa); (try simp only [World.size_drew] at hKa); refine (awake_any _).mono ?_; rintro e w1 ⟨rfl, hb1⟩; have HK := hide (kafter hKa hb1); clear hKa hb1; have HC := ktells (unhide HK); (try dsimp only at HC)) | (go_at_call 21; refine know_at (by (repeat (first | exact kk (unhide HK) | apply kkbox | apply kkdrew | apply kkdrewN | apply kkalloc))) (fun hKa => ?_); (try simp only [World.size_alloc] at hKa); (try simp only [World.size_drew] at hKa); refine (refRight_is _ _ _ _ (unhide HT) (by omega) _ (by exact kget hKa (Below.refl _ _))).mono ?_; rintro e w1 ⟨rfl, hb1⟩; have HK := hide (kafter hKa hb1); clear hKa hb1; have HC := ktells (unhide HK); (try dsimp only at HC)) | (go_at_call 31; refine (refIn_any _ _ _ _).mono ?_; rintro e w2 ⟨rfl, rfl⟩) | (go_at_call 38; refine (rightRng_is _ _ _ _).mono ?_; rintro e w2 ⟨rfl, o1, rfl⟩))
    all_goals (go_ret; exact ⟨rfl, kup (unhide HK)⟩)
  | true =>
    have HT := hide ht
    obtain ⟨t2, t20⟩ := tabOk_len ht
    cases hm : inB mass 0 1000000 with
    | false =>
      clear ht
      go_enter Try.func9, Try.ntmps9
      go_wp2_with (first | (go_at_call 17; refine know_at (by (repeat (first | exact kk (unhide HK) | apply kkbox | apply kkdrew | apply kkdrewN | apply kkalloc))) (fun hKa => ?_); (try simp only [World.size_alloc] at hKa); (try simp only [World.size_drew] at hKa); refine (awake_any _).mono ?_; rintro e w1 ⟨rfl, hb1⟩; have HK := hide (kafter hKa hb1); clear hKa hb1; have HC := ktells (unhide HK); (try dsimp only at HC)) | (go_at_call 21; refine know_at (by (repeat (first | exact kk (unhide HK) | apply kkbox | apply kkdrew | apply kkdrewN | apply kkalloc))) (fun hKa => ?_); (try simp only [World.size_alloc] at hKa); (try simp only [World.size_drew] at hKa); refine (refRight_is _ _ _ _ (unhide HT) (by omega) _ (by exact kget hKa (Below.refl _ _))).mono ?_; rintro e w1 ⟨rfl, hb1⟩; have HK := hide (kafter hKa hb1); clear hKa hb1; have HC := ktells (unhide HK); (try dsimp only at HC)) | (go_at_call 31; refine (refIn_any _ _ _ _).mono ?_; rintro e w2 ⟨rfl, rfl⟩) | (go_at_call 38; refine (rightRng_is _ _ _ _).mono ?_; rintro e w2 ⟨rfl, o1, rfl⟩))
      all_goals (go_ret; exact ⟨rfl, kup (unhide HK)⟩)
    | true =>
      obtain ⟨m0, m1⟩ := inB_iff.1 hm
      have hw1 : IntKind.i64.wrap (4000 * mass) = 4000 * mass := w64 (by omega) (by omega)
      have hw2 : IntKind.i64.wrap (10000 * mass) = 10000 * mass := w64 (by omega) (by omega)
      cases hh' : rngB hl hh (4000 * mass) with
      | false =>
        clear ht
        go_enter Try.func9, Try.ntmps9
        go_wp2_with (first | (go_at_call 17; refine know_at (by (repeat (first | exact kk (unhide HK) | apply kkbox | apply kkdrew | apply kkdrewN | apply kkalloc))) (fun hKa => ?_); (try simp only [World.size_alloc] at hKa); (try simp only [World.size_drew] at hKa); refine (awake_any _).mono ?_; rintro e w1 ⟨rfl, hb1⟩; have HK := hide (kafter hKa hb1); clear hKa hb1; have HC := ktells (unhide HK); (try dsimp only at HC)) | (go_at_call 21; refine know_at (by (repeat (first | exact kk (unhide HK) | apply kkbox | apply kkdrew | apply kkdrewN | apply kkalloc))) (fun hKa => ?_); (try simp only [World.size_alloc] at hKa); (try simp only [World.size_drew] at hKa); refine (refRight_is _ _ _ _ (unhide HT) (by omega) _ (by exact kget hKa (Below.refl _ _))).mono ?_; rintro e w1 ⟨rfl, hb1⟩; have HK := hide (kafter hKa hb1); clear hKa hb1; have HC := ktells (unhide HK); (try dsimp only at HC)) | (go_at_call 31; refine (refIn_any _ _ _ _).mono ?_; rintro e w2 ⟨rfl, rfl⟩) | (go_at_call 38; refine (rightRng_is _ _ _ _).mono ?_; rintro e w2 ⟨rfl, o1, rfl⟩))
        all_goals (go_ret; exact ⟨rfl, kup (unhide HK)⟩)
      | true =>
        cases hs' : rngB sl sh (10000 * mass) with
        | false =>
          clear ht
          go_enter Try.func9, Try.ntmps9
          go_wp2_with (first | (go_at_call 17; refine know_at (by (repeat (first | exact kk (unhide HK) | apply kkbox | apply kkdrew | apply kkdrewN | apply kkalloc))) (fun hKa => ?_); (try simp only [World.size_alloc] at hKa); (try simp only [World.size_drew] at hKa); refine (awake_any _).mono ?_; rintro e w1 ⟨rfl, hb1⟩; have HK := hide (kafter hKa hb1); clear hKa hb1; have HC := ktells (unhide HK); (try dsimp only at HC)) | (go_at_call 21; refine know_at (by (repeat (first | exact kk (unhide HK) | apply kkbox | apply kkdrew | apply kkdrewN | apply kkalloc))) (fun hKa => ?_); (try simp only [World.size_alloc] at hKa); (try simp only [World.size_drew] at hKa); refine (refRight_is _ _ _ _ (unhide HT) (by omega) _ (by exact kget hKa (Below.refl _ _))).mono ?_; rintro e w1 ⟨rfl, hb1⟩; have HK := hide (kafter hKa hb1); clear hKa hb1; have HC := ktells (unhide HK); (try dsimp only at HC)) | (go_at_call 31; refine (refIn_any _ _ _ _).mono ?_; rintro e w2 ⟨rfl, rfl⟩) | (go_at_call 38; refine (rightRng_is _ _ _ _).mono ?_; rintro e w2 ⟨rfl, o1, rfl⟩))
          all_goals (go_ret; exact ⟨rfl, kup (unhide HK)⟩)
        | true =>
          obtain ⟨n1, n2, n3⟩ := rngB_iff.1 hh'
          obtain ⟨n4, n5, n6⟩ := rngB_iff.1 hs'
          obtain ⟨lvn, rfl⟩ := Int.eq_ofNat_of_zero_le l0
          obtain ⟨k, hnn⟩ : ∃ nn, nn = lvn % t.length := ⟨_, rfl⟩
          have hnl : k < t.length := by rw [hnn]; exact Nat.mod_lt _ (by omega)
          have hmod : (lvn : Int) % (t.length : Int) = (k : Int) := by rw [hnn]; simp
          have htm : (lvn : Int).tmod (t.length : Int) = (k : Int) := by rw [Int.tmod_eq_emod_of_nonneg (by omega)]; exact hmod
          have hx := rowAt_get (t := t) (level := (k : Int)) (by omega) (by omega)
          rw [Int.toNat_natCast] at hx
          have hrow := tabOk_row ht hx
          have hlv : inB (k : Int) 0 (t.length - 1) = true := inB_of (by omega) (by omega)
          obtain ⟨ph, hph⟩ : ∃ x, x = hl + u % (hh - hl + 1) := ⟨_, rfl⟩
          obtain ⟨ps, hps⟩ : ∃ x, x = sl + v % (sh - sl + 1) := ⟨_, rfl⟩
          have q1 : hl ≤ ph ∧ ph ≤ hh := by
            have a := Int.emod_nonneg u (show hh - hl + 1 ≠ 0 by omega)
            have b := Int.emod_lt_of_pos u (show 0 < hh - hl + 1 by omega)
            omega
          have q2 : sl ≤ ps ∧ ps ≤ sh := by
            have a := Int.emod_nonneg v (show sh - sl + 1 ≠ 0 by omega)
            have b := Int.emod_lt_of_pos v (show 0 < sh - sl + 1 by omega)
            omega
          have sb1 : StrB ⟨mass, hl, sl, 0⟩ := ⟨m0, m1, n1, by dsimp only; omega, n4, by dsimp only; omega, Int.le_refl 0, (show (0 : Int) ≤ 1000000000 by decide)⟩
          have sb2 : StrB ⟨mass, hh, sh, 0⟩ := ⟨m0, m1, by dsimp only; omega, n3, by dsimp only; omega, n6, Int.le_refl 0, (show (0 : Int) ≤ 1000000000 by decide)⟩
          have sb3 : StrB ⟨mass, ph, ps, 0⟩ := ⟨m0, m1, by dsimp only; omega, by dsimp only; omega, by dsimp only; omega, by dsimp only; omega, Int.le_refl 0, (show (0 : Int) ≤ 1000000000 by decide)⟩
          have hbd : boundsR t k mass hl hh sl sh = ((((flashOf (rowAt t k) ⟨mass, hl, sl, 0⟩).st.M, (flashOf (rowAt t k) ⟨mass, hh, sh, 0⟩).st.M), ((flashOf (rowAt t k) ⟨mass, hl, sl, 0⟩).scale, (flashOf (rowAt t k) ⟨mass, hh, sh, 0⟩).scale)), 0) := by simp [boundsR, ht, hlv, hm, hh', hs']
          have f1 : flashR t k ⟨mass, hl, sl, 0⟩ = (flashOf (rowAt t k) ⟨mass, hl, sl, 0⟩, 0) := by simp [flashR, ht, hlv, strOk_iff.2 sb1]
          have f2 : flashR t k ⟨mass, hh, sh, 0⟩ = (flashOf (rowAt t k) ⟨mass, hh, sh, 0⟩, 0) := by simp [flashR, ht, hlv, strOk_iff.2 sb2]
          have f3 : flashR t k ⟨mass, ph, ps, 0⟩ = (flashOf (rowAt t k) ⟨mass, ph, ps, 0⟩, 0) := by simp [flashR, ht, hlv, strOk_iff.2 sb3]
          have g1 : (flashOf (rowAt t k) ⟨mass, hl, sl, 0⟩).st.M ≤ (flashOf (rowAt t k) ⟨mass, ph, ps, 0⟩).st.M := by
            rw [flash_st, flash_st]; exact steam_mono hrow sb1 rfl q1.1
          have g2 : (flashOf (rowAt t k) ⟨mass, ph, ps, 0⟩).st.M ≤ (flashOf (rowAt t k) ⟨mass, hh, sh, 0⟩).st.M := by
            rw [flash_st, flash_st]; exact steam_mono hrow sb3 rfl q1.2
          have g3 := scale_mono hrow sb1 (t := ⟨mass, ph, ps, 0⟩) rfl q1.1 q2.1
          have g4 := scale_mono hrow sb3 (t := ⟨mass, hh, sh, 0⟩) rfl q1.2 q2.2
          generalize flashOf (rowAt t k) ⟨mass, hl, sl, 0⟩ = lo at *
          generalize flashOf (rowAt t k) ⟨mass, hh, sh, 0⟩ = hi at *
          generalize flashOf (rowAt t k) ⟨mass, ph, ps, 0⟩ = p at *
          have HBD := hide hbd
          have HF1 := hide f1
          have HF2 := hide f2
          have HF3 := hide f3
          have hph' := hph.symm
          have hps' := hps.symm
          clear ht hx hrow sb1 sb2 sb3 hbd f1 f2 f3 hph hps hnn hlv
          obtain ⟨⟨p1, p2, p3, p4⟩, ⟨p5, p6, p7, p8⟩, p9, pz⟩ := p
          obtain ⟨⟨a1, a2, a3, a4⟩, ⟨a5, a6, a7, a8⟩, a9, az⟩ := lo
          obtain ⟨⟨b1, b2, b3, b4⟩, ⟨b5, b6, b7, b8⟩, b9, bz⟩ := hi
          dsimp only at g1 g2 g3 g4 HBD
          have i1 : inB p1 a1 b1 = true := inB_of g1 g2
          have i2 : inB pz az bz = true := inB_of g3 g4
          go_enter Try.func9, Try.ntmps9
          go_upto_region 4 with (first | (go_at_call 17; refine know_at (by (repeat (first | exact kk (unhide HK) | apply kkbox | apply kkdrew | apply kkdrewN | apply kkalloc))) (fun hKa => ?_); (try simp only [World.size_alloc] at hKa); (try simp only [World.size_drew] at hKa); refine (awake_any _).mono ?_; rintro e w1 ⟨rfl, hb1⟩; have HK := hide (kafter hKa hb1); clear hKa hb1; have HC := ktells (unhide HK); (try dsimp only at HC)) | (go_at_call 21; refine know_at (by (repeat (first | exact kk (unhide HK) | apply kkbox | apply kkdrew | apply kkdrewN | apply kkalloc))) (fun hKa => ?_); (try simp only [World.size_alloc] at hKa); (try simp only [World.size_drew] at hKa); refine (refRight_is _ _ _ _ (unhide HT) (by omega) _ (by exact kget hKa (Below.refl _ _))).mono ?_; rintro e w1 ⟨rfl, hb1⟩; have HK := hide (kafter hKa hb1); clear hKa hb1; have HC := ktells (unhide HK); (try dsimp only at HC)) | (go_at_call 31; refine (refIn_any _ _ _ _).mono ?_; rintro e w2 ⟨rfl, rfl⟩) | (go_at_call 38; refine (rightRng_is _ _ _ _).mono ?_; rintro e w2 ⟨rfl, o1, rfl⟩))
          refine know_here (by (repeat (first | exact kk (unhide HK) | apply kkbox | apply kkdrew | apply kkdrewN | apply kkalloc))) ?_
          intro V4 hKA
          (try simp only [World.size_alloc] at hKA)
          (try simp only [World.size_drew] at hKA)
          have HKA := hide hKA
          have HCA := ktells hKA
          (try dsimp only at HCA)
          refine Gen.begin_ [⟨13, 16, #[.int .i64 0, .int .i64 0], 71⟩, ⟨14, 17, #[.int .i64 0, .int .i64 0], 71⟩] 16 (by kernel_rfl) hKA (by rfl) ⟨fun x hx => by (simp only [List.mem_cons, List.not_mem_nil, or_false] at hx; rcases hx with rfl | rfl; all_goals exact ⟨_, by rfl, by rfl, by rfl, fun _ _ => by kernel_rfl⟩), by kernel_rfl, fun _ _ _ _ _ => Iff.rfl⟩ (fun okA => ?_)
          clear hKA
          refine Gen.take 0 (v := ?vv1) okA (by simp only [List.getElem?_toArray, List.getElem?_cons_zero]; rfl) (by kernel_rfl) (by kernel_rfl) (by kernel_rfl) (Or.inl ⟨by rfl, ?hh1⟩) ?_
          case hh1 => (intro wg hSw; have hc := ktells hSw; (try dsimp only at hc); go_simp; try with_reducible rfl)
          (try simp only [Act.put, List.setIfInBounds_toArray, List.set_cons_zero, List.set_cons_succ])
          refine Gen.take 2 (v := ?vv2) okA (by simp only [List.getElem?_toArray, List.getElem?_cons_zero, List.getElem?_cons_succ]; rfl) (by kernel_rfl) (by kernel_rfl) (by kernel_rfl) (Or.inl ⟨by rfl, ?hh2⟩) ?_
          case hh2 => (intro wg hSw; have hc := ktells hSw; (try dsimp only at hc); go_simp; try with_reducible rfl)
          (try simp only [Act.put, List.setIfInBounds_toArray, List.set_cons_zero, List.set_cons_succ])
          refine Gen.take 3 (v := ?vv3) okA (by simp only [List.getElem?_toArray, List.getElem?_cons_zero, List.getElem?_cons_succ]; rfl) (by kernel_rfl) (by kernel_rfl) (by kernel_rfl) (Or.inl ⟨by rfl, ?hh3⟩) ?_
          case hh3 => (intro wg hSw; have hc := ktells hSw; (try dsimp only at hc); go_simp; try with_reducible rfl)
          (try simp only [Act.put, List.setIfInBounds_toArray, List.set_cons_zero, List.set_cons_succ])
          refine Gen.take 4 (v := ?vv4) okA (by simp only [List.getElem?_toArray, List.getElem?_cons_zero, List.getElem?_cons_succ]; rfl) (by kernel_rfl) (by kernel_rfl) (by kernel_rfl) (Or.inl ⟨by rfl, ?hh4⟩) ?_
          case hh4 => (intro wg hSw; have hc := ktells hSw; (try dsimp only at hc); go_simp; try with_reducible rfl)
          (try simp only [Act.put, List.setIfInBounds_toArray, List.set_cons_zero, List.set_cons_succ])
          refine Gen.take 6 (v := ?vv5) okA (by simp only [List.getElem?_toArray, List.getElem?_cons_zero, List.getElem?_cons_succ]; rfl) (by kernel_rfl) (by kernel_rfl) (by kernel_rfl) (Or.inl ⟨by rfl, ?hh5⟩) ?_
          case hh5 => (intro wg hSw; have hc := ktells hSw; (try dsimp only at hc); go_simp; try with_reducible rfl)
          (try simp only [Act.put, List.setIfInBounds_toArray, List.set_cons_zero, List.set_cons_succ])
          refine Gen.step inferInstance Gen.size 1 okA (by kernel_rfl) inferInstance (by simp) (fun wg hKg hSg => wpOp_of (by simp only [List.getElem?_toArray, List.getElem?_cons_zero, List.getElem?_cons_succ]; rfl) (by rfl) ?_)
          go_simp
          refine (mkTable_any _ _ _ (by omega) _ (by exact kget hKg (Below.refl _ _))).mono ?_
          rintro e wh ⟨v1, rfl, ⟨A1, c1, rfl, hc1, hr1, -⟩, hb1⟩
          (try dsimp only)
          refine Gen.more (F := kRds eRow A1 t) rfl hKg hb1 hr1 ?_
          clear hKg hSg
          clear hb1
          clear hr1
          refine Gen.step inferInstance Gen.size 5 okA (by kernel_rfl) inferInstance (by simp) (fun wg hKg hSg => wpOp_of (by simp only [List.getElem?_toArray, List.getElem?_cons_zero, List.getElem?_cons_succ]; rfl) (by rfl) ?_)
          go_simp
          refine (mkRng_is _ _ _).mono ?_
          rintro e wh ⟨rfl, o1, o2, rfl⟩
          (try dsimp only)
          refine Gen.stay rfl hKg (by (repeat (first | exact Below.refl _ _ | refine Below.allocs ?_ _ | refine Below.drew ?_ | refine Below.drewNs ?_ _))) ?_
          clear hKg hSg
          refine Gen.step inferInstance Gen.size 7 okA (by kernel_rfl) inferInstance (by simp) (fun wg hKg hSg => wpOp_of (by simp only [List.getElem?_toArray, List.getElem?_cons_zero, List.getElem?_cons_succ]; rfl) (by rfl) ?_)
          go_simp
          refine (mkRng_is _ _ _).mono ?_
          rintro e wh ⟨rfl, o1, o2, rfl⟩
          (try dsimp only)
          refine Gen.stay rfl hKg (by (repeat (first | exact Below.refl _ _ | refine Below.allocs ?_ _ | refine Below.drew ?_ | refine Below.drewNs ?_ _))) ?_
          clear hKg hSg
          refine Gen.step inferInstance Gen.size 8 okA (by kernel_rfl) inferInstance (by simp) (fun wg hKg hSg => wpOp_of (by simp only [List.getElem?_toArray, List.getElem?_cons_zero, List.getElem?_cons_succ]; rfl) (by rfl) ?_)
          go_simp
          refine (bounds_is _ _ _ _ _ _ _ _ _ _ _ _ _ _ (unhide HBD) (by omega) (by omega) _ (by exact kget hKg (Below.refl _ _))).mono ?_
          rintro e wh ⟨rfl, hb1⟩
          (try dsimp only)
          refine Gen.stay rfl hKg hb1 ?_
          clear hKg hSg
          clear hb1
          refine Gen.take 9 (v := ?vv6) okA (by simp only [List.getElem?_toArray, List.getElem?_cons_zero, List.getElem?_cons_succ]; rfl) (by kernel_rfl) (by kernel_rfl) (by kernel_rfl) (Or.inl ⟨by rfl, ?hh6⟩) ?_
          case hh6 => (intro wg hSw; have hc := ktells hSw; (try dsimp only at hc); go_simp; try with_reducible rfl)
          (try simp only [Act.put, List.setIfInBounds_toArray, List.set_cons_zero, List.set_cons_succ])
          refine Gen.take 10 (v := ?vv7) okA (by simp only [List.getElem?_toArray, List.getElem?_cons_zero, List.getElem?_cons_succ]; rfl) (by kernel_rfl) (by kernel_rfl) (by kernel_rfl) (Or.inl ⟨by rfl, ?hh7⟩) ?_
          case hh7 => (intro wg hSw; have hc := ktells hSw; (try dsimp only at hc); go_simp; try with_reducible rfl)
          (try simp only [Act.put, List.setIfInBounds_toArray, List.set_cons_zero, List.set_cons_succ])
          refine Gen.take 11 (v := ?vv8) okA (by simp only [List.getElem?_toArray, List.getElem?_cons_zero, List.getElem?_cons_succ]; rfl) (by kernel_rfl) (by kernel_rfl) (by kernel_rfl) (Or.inl ⟨by rfl, ?hh8⟩) ?_
          case hh8 => (intro wg hSw; have hc := ktells hSw; (try dsimp only at hc); go_simp; try with_reducible rfl)
          (try simp only [Act.put, List.setIfInBounds_toArray, List.set_cons_zero, List.set_cons_succ])
          refine Gen.take 12 (v := ?vv9) okA (by simp only [List.getElem?_toArray, List.getElem?_cons_zero, List.getElem?_cons_succ]; rfl) (by kernel_rfl) (by kernel_rfl) (by kernel_rfl) (Or.inl ⟨by rfl, ?hh9⟩) ?_
          case hh9 => (intro wg hSw; have hc := ktells hSw; (try dsimp only at hc); go_simp; try with_reducible rfl)
          (try simp only [Act.put, List.setIfInBounds_toArray, List.set_cons_zero, List.set_cons_succ])
          refine Gen.finish inferInstance Gen.size okA (by kernel_rfl) inferInstance (by simp) ?_
          simp only [Gen.Fin, NewVar.put]
          (try simp only [Act.put, List.setIfInBounds_toArray, List.set_cons_zero, List.set_cons_succ])
          intro BA13 hnA13 BA14 hnA14 wf hKf hSf
          obtain ⟨wu, rfl, hg13, hg14, hup⟩ := graft2 (fun W => Below V4.heap.size V4 W) hKf.2.1.1 hKf.1.1 hSf.1
          have hz13 := hKf.2.1.2
          have hz14 := hKf.1.2
          have hne13_14 : BA13 ≠ BA14 := fun e => hnA14 (by simp [e])
          have hne14_13 : BA14 ≠ BA13 := fun e => hne13_14 e.symm
          clear hKf hSf
          refine Gen.one 15 (by kernel_rfl) (wpOp_of (by simp only [List.getElem?_toArray, List.getElem?_cons_zero, List.getElem?_cons_succ]; rfl) (by rfl) ?_)
          go_simp
          (try simp only [Act.put, List.setIfInBounds_toArray, List.set_cons_zero, List.set_cons_succ])
          refine ⟨⟨(belowRow (belowRow hup hz13 _) hz14 _), kafter (unhide HKA) (belowRow (belowRow hup hz13 _) hz14 _)⟩, ?_⟩
          refine Gen.one 16 (by kernel_rfl) (wpOp_of (by simp only [List.getElem?_toArray, List.getElem?_cons_zero, List.getElem?_cons_succ]; rfl) (by rfl) ?_)
          go_simp
          (try simp only [Act.put, List.setIfInBounds_toArray, List.set_cons_zero, List.set_cons_succ])
          refine ⟨⟨(belowRow (belowRow hup hz13 _) hz14 _), kafter (unhide HKA) (belowRow (belowRow hup hz13 _) hz14 _)⟩, ?_⟩
          refine Gen.one 17 (by kernel_rfl) (wpOp_of (by simp only [List.getElem?_toArray, List.getElem?_cons_zero, List.getElem?_cons_succ]; rfl) (by rfl) ?_)
          go_simp
          (try simp only [Act.put, List.setIfInBounds_toArray, List.set_cons_zero, List.set_cons_succ])
          refine ⟨⟨(belowRow (belowRow hup hz13 _) hz14 _), kafter (unhide HKA) (belowRow (belowRow hup hz13 _) hz14 _)⟩, ?_⟩
          refine Gen.done (K := (kAnd (kNew V4.heap.size BA13 _) (kAnd (kNew V4.heap.size BA14 _) _))) (by kernel_rfl) ⟨⟨(RowIs.other (RowIs.same hg13 _) hne13_14 _), hz13⟩, ⟨⟨(RowIs.same (IsRow.setRow hg14 _ _) _), hz14⟩, kafter (unhide HKA) (belowRow (belowRow hup hz13 _) hz14 _)⟩⟩ (fun WA hKA => ?_) _
          clear okA hup hg13 hz13 hg14 hz14
          have HK := hide hKA
          have HC := ktells hKA
          (try dsimp only at HC)
          clear hKA
          go_wp2_with fail
          refine know_here (by (repeat (first | exact kk (unhide HK) | apply kkbox | apply kkdrew | apply kkdrewN | apply kkalloc))) ?_
          intro V5 hKB
          (try simp only [World.size_alloc] at hKB)
          (try simp only [World.size_drew] at hKB)
          have HKB := hide hKB
          have HCB := ktells hKB
          (try dsimp only at HCB)
          refine Gen.begin_ [⟨15, 19, #[.int .i64 0, .int .i64 0, .int .i64 0, .int .i64 0, .int .i64 0, .int .i64 0, .int .i64 0, .int .i64 0, .int .i64 0, .int .i64 0], 44⟩] 17 (by kernel_rfl) hKB (by rfl) ⟨fun x hx => by (simp only [List.mem_cons, List.not_mem_nil, or_false] at hx; rcases hx with rfl; all_goals exact ⟨_, by rfl, by rfl, by rfl, fun _ _ => by kernel_rfl⟩), by kernel_rfl, fun _ _ _ _ _ => Iff.rfl⟩ (fun okB => ?_)
          clear hKB
          refine Gen.take 0 (v := ?vv10) okB (by simp only [List.getElem?_toArray, List.getElem?_cons_zero]; rfl) (by kernel_rfl) (by kernel_rfl) (by kernel_rfl) (Or.inl ⟨by rfl, ?hh10⟩) ?_
          case hh10 => (intro wg hSw; have hc := ktells hSw; (try dsimp only at hc); go_simp; try with_reducible rfl)
          (try simp only [Act.put, List.setIfInBounds_toArray, List.set_cons_zero, List.set_cons_succ])
          refine Gen.take 2 (v := ?vv11) okB (by simp only [List.getElem?_toArray, List.getElem?_cons_zero, List.getElem?_cons_succ]; rfl) (by kernel_rfl) (by kernel_rfl) (by kernel_rfl) (Or.inl ⟨by rfl, ?hh11⟩) ?_
          case hh11 => (intro wg hSw; have hc := ktells hSw; (try dsimp only at hc); go_simp; try with_reducible rfl)
          (try simp only [Act.put, List.setIfInBounds_toArray, List.set_cons_zero, List.set_cons_succ])
          refine Gen.take 3 (v := ?vv12) okB (by simp only [List.getElem?_toArray, List.getElem?_cons_zero, List.getElem?_cons_succ]; rfl) (by kernel_rfl) (by kernel_rfl) (by kernel_rfl) (Or.inl ⟨by rfl, ?hh12⟩) ?_
          case hh12 => (intro wg hSw; have hc := ktells hSw; (try dsimp only at hc); go_simp; try with_reducible rfl)
          (try simp only [Act.put, List.setIfInBounds_toArray, List.set_cons_zero, List.set_cons_succ])
          refine Gen.take 4 (v := ?vv13) okB (by simp only [List.getElem?_toArray, List.getElem?_cons_zero, List.getElem?_cons_succ]; rfl) (by kernel_rfl) (by kernel_rfl) (by kernel_rfl) (Or.inl ⟨by rfl, ?hh13⟩) ?_
          case hh13 => (intro wg hSw; have hc := ktells hSw; (try dsimp only at hc); go_simp; try with_reducible rfl)
          (try simp only [Act.put, List.setIfInBounds_toArray, List.set_cons_zero, List.set_cons_succ])
          refine Gen.take 5 (v := ?vv14) okB (by simp only [List.getElem?_toArray, List.getElem?_cons_zero, List.getElem?_cons_succ]; rfl) (by kernel_rfl) (by kernel_rfl) (by kernel_rfl) (Or.inl ⟨by rfl, ?hh14⟩) ?_
          case hh14 => (intro wg hSw; have hc := ktells hSw; (try dsimp only at hc); go_simp; try with_reducible rfl)
          (try simp only [Act.put, List.setIfInBounds_toArray, List.set_cons_zero, List.set_cons_succ])
          refine Gen.take 7 (v := ?vv15) okB (by simp only [List.getElem?_toArray, List.getElem?_cons_zero, List.getElem?_cons_succ]; rfl) (by kernel_rfl) (by kernel_rfl) (by kernel_rfl) (Or.inl ⟨by rfl, ?hh15⟩) ?_
          case hh15 => (intro wg hSw; have hc := ktells hSw; (try dsimp only at hc); go_simp; try with_reducible rfl)
          (try simp only [Act.put, List.setIfInBounds_toArray, List.set_cons_zero, List.set_cons_succ])
          refine Gen.take 8 (v := ?vv16) okB (by simp only [List.getElem?_toArray, List.getElem?_cons_zero, List.getElem?_cons_succ]; rfl) (by kernel_rfl) (by kernel_rfl) (by kernel_rfl) (Or.inl ⟨by rfl, ?hh16⟩) ?_
          case hh16 => (intro wg hSw; have hc := ktells hSw; (try dsimp only at hc); go_simp; try with_reducible rfl)
          (try simp only [Act.put, List.setIfInBounds_toArray, List.set_cons_zero, List.set_cons_succ])
          refine Gen.step inferInstance Gen.size 1 okB (by kernel_rfl) inferInstance (by simp) (fun wg hKg hSg => wpOp_of (by simp only [List.getElem?_toArray, List.getElem?_cons_zero, List.getElem?_cons_succ]; rfl) (by rfl) ?_)
          go_simp
          refine (mkTable_any _ _ _ (by omega) _ (by exact kget hKg (Below.refl _ _))).mono ?_
          rintro e wh ⟨v1, rfl, ⟨A1, c1, rfl, hc1, hr1, -⟩, hb1⟩
          (try dsimp only)
          refine Gen.more (F := kRds eRow A1 t) rfl hKg hb1 hr1 ?_
          clear hKg hSg
          clear hb1
          clear hr1
          refine Gen.step inferInstance Gen.size 6 okB (by kernel_rfl) inferInstance (by simp) (fun wg hKg hSg => wpOp_of (by simp only [List.getElem?_toArray, List.getElem?_cons_zero, List.getElem?_cons_succ]; rfl) (by rfl) ?_)
          go_simp
          refine (pick_is _ _ _ (by omega) (by omega) (by omega) (by omega) (by omega) _).mono ?_
          rintro e wh ⟨rfl, hb1⟩
          (try dsimp only)
          refine Gen.stay rfl hKg hb1 ?_
          clear hKg hSg
          clear hb1
          refine Gen.step inferInstance Gen.size 9 okB (by kernel_rfl) inferInstance (by simp) (fun wg hKg hSg => wpOp_of (by simp only [List.getElem?_toArray, List.getElem?_cons_zero, List.getElem?_cons_succ]; rfl) (by rfl) ?_)
          go_simp
          refine (pick_is _ _ _ (by omega) (by omega) (by omega) (by omega) (by omega) _).mono ?_
          rintro e wh ⟨rfl, hb1⟩
          (try dsimp only)
          refine Gen.stay rfl hKg hb1 ?_
          clear hKg hSg
          clear hb1
          refine Gen.take 10 (v := ?vv17) okB (by simp only [List.getElem?_toArray, List.getElem?_cons_zero, List.getElem?_cons_succ]; rfl) (by kernel_rfl) (by kernel_rfl) (by kernel_rfl) (Or.inl ⟨by rfl, ?hh17⟩) ?_
          case hh17 => (intro wg hSw; have hc := ktells hSw; (try dsimp only at hc); go_simp; try with_reducible rfl)
          (try simp only [Act.put, List.setIfInBounds_toArray, List.set_cons_zero, List.set_cons_succ])
          refine Gen.step inferInstance Gen.size 11 okB (by kernel_rfl) inferInstance (by simp) (fun wg hKg hSg => wpOp_of (by simp only [List.getElem?_toArray, List.getElem?_cons_zero, List.getElem?_cons_succ]; rfl) (by rfl) ?_)
          go_simp
          refine (flash_is _ _ t _ _ _ _ _ _ _ (unhide HF3) (by omega) (by omega) _ (by exact kget hKg (Below.refl _ _))).mono ?_
          rintro e wh ⟨rfl, hb1⟩
          (try dsimp only)
          refine Gen.stay rfl hKg hb1 ?_
          clear hKg hSg
          clear hb1
          refine Gen.take 12 (v := ?vv18) okB (by simp only [List.getElem?_toArray, List.getElem?_cons_zero, List.getElem?_cons_succ]; rfl) (by kernel_rfl) (by kernel_rfl) (by kernel_rfl) (Or.inl ⟨by rfl, ?hh18⟩) ?_
          case hh18 => (intro wg hSw; have hc := ktells hSw; (try dsimp only at hc); go_simp; try with_reducible rfl)
          (try simp only [Act.put, List.setIfInBounds_toArray, List.set_cons_zero, List.set_cons_succ])
          refine Gen.take 13 (v := ?vv19) okB (by simp only [List.getElem?_toArray, List.getElem?_cons_zero, List.getElem?_cons_succ]; rfl) (by kernel_rfl) (by kernel_rfl) (by kernel_rfl) (Or.inl ⟨by rfl, ?hh19⟩) ?_
          case hh19 => (intro wg hSw; have hc := ktells hSw; (try dsimp only at hc); go_simp; try with_reducible rfl)
          (try simp only [Act.put, List.setIfInBounds_toArray, List.set_cons_zero, List.set_cons_succ])
          refine Gen.take 14 (v := ?vv20) okB (by simp only [List.getElem?_toArray, List.getElem?_cons_zero, List.getElem?_cons_succ]; rfl) (by kernel_rfl) (by kernel_rfl) (by kernel_rfl) (Or.inl ⟨by rfl, ?hh20⟩) ?_
          case hh20 => (intro wg hSw; have hc := ktells hSw; (try dsimp only at hc); go_simp; try with_reducible rfl)
          (try simp only [Act.put, List.setIfInBounds_toArray, List.set_cons_zero, List.set_cons_succ])
          refine Gen.finish inferInstance Gen.size okB (by kernel_rfl) inferInstance (by simp) ?_
          simp only [Gen.Fin, NewVar.put]
          (try simp only [Act.put, List.setIfInBounds_toArray, List.set_cons_zero, List.set_cons_succ])
          intro BB15 hnB15 wf hKf hSf
          obtain ⟨wu, rfl, hg15, hup⟩ := graft1 (fun W => Below V5.heap.size V5 W) hKf.1.1 hSf.1
          have hz15 := hKf.1.2
          clear hKf hSf
          refine Gen.one 16 (by kernel_rfl) (wpOp_of (by simp only [List.getElem?_toArray, List.getElem?_cons_zero, List.getElem?_cons_succ]; rfl) (by rfl) ?_)
          go_simp
          (try simp only [Act.put, List.setIfInBounds_toArray, List.set_cons_zero, List.set_cons_succ])
          refine ⟨⟨(belowRow hup hz15 _), kafter (unhide HKB) (belowRow hup hz15 _)⟩, ?_⟩
          refine Gen.one 17 (by kernel_rfl) (wpOp_of (by simp only [List.getElem?_toArray, List.getElem?_cons_zero, List.getElem?_cons_succ]; rfl) (by rfl) ?_)
          go_simp
          (try simp only [Act.put, List.setIfInBounds_toArray, List.set_cons_zero, List.set_cons_succ])
          refine ⟨⟨(belowRow hup hz15 _), kafter (unhide HKB) (belowRow hup hz15 _)⟩, ?_⟩
          refine Gen.done (K := (kAnd (kNew V5.heap.size BB15 _) _)) (by kernel_rfl) ⟨⟨(RowIs.same hg15 _), hz15⟩, kafter (unhide HKB) (belowRow hup hz15 _)⟩ (fun WB hKB => ?_) _
          clear okB hup hg15 hz15
          have HK := hide hKB
          have HC := ktells hKB
          (try dsimp only at HC)
          clear hKB
          go_wp2_with fail
          refine know_here (by (repeat (first | exact kk (unhide HK) | apply kkbox | apply kkdrew | apply kkdrewN | apply kkalloc))) ?_
          intro V6 hKC
          (try simp only [World.size_alloc] at hKC)
          (try simp only [World.size_drew] at hKC)
          have HKC := hide hKC
          have HCC := ktells hKC
          (try dsimp only at HCC)
          refine Gen.begin_ [⟨13, 21, #[.int .i64 0, .int .i64 0, .int .i64 0, .int .i64 0, .int .i64 0, .int .i64 0, .int .i64 0, .int .i64 0, .int .i64 0, .int .i64 0], 44⟩] 15 (by kernel_rfl) hKC (by rfl) ⟨fun x hx => by (simp only [List.mem_cons, List.not_mem_nil, or_false] at hx; rcases hx with rfl; all_goals exact ⟨_, by rfl, by rfl, by rfl, fun _ _ => by kernel_rfl⟩), by kernel_rfl, fun _ _ _ _ _ => Iff.rfl⟩ (fun okC => ?_)
          clear hKC
          refine Gen.take 0 (v := ?vv21) okC (by simp only [List.getElem?_toArray, List.getElem?_cons_zero]; rfl) (by kernel_rfl) (by kernel_rfl) (by kernel_rfl) (Or.inl ⟨by rfl, ?hh21⟩) ?_
          case hh21 => (intro wg hSw; have hc := ktells hSw; (try dsimp only at hc); go_simp; try with_reducible rfl)
          (try simp only [Act.put, List.setIfInBounds_toArray, List.set_cons_zero, List.set_cons_succ])
          refine Gen.take 2 (v := ?vv22) okC (by simp only [List.getElem?_toArray, List.getElem?_cons_zero, List.getElem?_cons_succ]; rfl) (by kernel_rfl) (by kernel_rfl) (by kernel_rfl) (Or.inl ⟨by rfl, ?hh22⟩) ?_
          case hh22 => (intro wg hSw; have hc := ktells hSw; (try dsimp only at hc); go_simp; try with_reducible rfl)
          (try simp only [Act.put, List.setIfInBounds_toArray, List.set_cons_zero, List.set_cons_succ])
          refine Gen.take 3 (v := ?vv23) okC (by simp only [List.getElem?_toArray, List.getElem?_cons_zero, List.getElem?_cons_succ]; rfl) (by kernel_rfl) (by kernel_rfl) (by kernel_rfl) (Or.inl ⟨by rfl, ?hh23⟩) ?_
          case hh23 => (intro wg hSw; have hc := ktells hSw; (try dsimp only at hc); go_simp; try with_reducible rfl)
          (try simp only [Act.put, List.setIfInBounds_toArray, List.set_cons_zero, List.set_cons_succ])
          refine Gen.take 4 (v := ?vv24) okC (by simp only [List.getElem?_toArray, List.getElem?_cons_zero, List.getElem?_cons_succ]; rfl) (by kernel_rfl) (by kernel_rfl) (by kernel_rfl) (Or.inl ⟨by rfl, ?hh24⟩) ?_
          case hh24 => (intro wg hSw; have hc := ktells hSw; (try dsimp only at hc); go_simp; try with_reducible rfl)
          (try simp only [Act.put, List.setIfInBounds_toArray, List.set_cons_zero, List.set_cons_succ])
          refine Gen.take 5 (v := ?vv25) okC (by simp only [List.getElem?_toArray, List.getElem?_cons_zero, List.getElem?_cons_succ]; rfl) (by kernel_rfl) (by kernel_rfl) (by kernel_rfl) (Or.inl ⟨by rfl, ?hh25⟩) ?_
          case hh25 => (intro wg hSw; have hc := ktells hSw; (try dsimp only at hc); go_simp; try with_reducible rfl)
          (try simp only [Act.put, List.setIfInBounds_toArray, List.set_cons_zero, List.set_cons_succ])
          refine Gen.take 6 (v := ?vv26) okC (by simp only [List.getElem?_toArray, List.getElem?_cons_zero, List.getElem?_cons_succ]; rfl) (by kernel_rfl) (by kernel_rfl) (by kernel_rfl) (Or.inl ⟨by rfl, ?hh26⟩) ?_
          case hh26 => (intro wg hSw; have hc := ktells hSw; (try dsimp only at hc); go_simp; try with_reducible rfl)
          (try simp only [Act.put, List.setIfInBounds_toArray, List.set_cons_zero, List.set_cons_succ])
          refine Gen.take 7 (v := ?vv27) okC (by simp only [List.getElem?_toArray, List.getElem?_cons_zero, List.getElem?_cons_succ]; rfl) (by kernel_rfl) (by kernel_rfl) (by kernel_rfl) (Or.inl ⟨by rfl, ?hh27⟩) ?_
          case hh27 => (intro wg hSw; have hc := ktells hSw; (try dsimp only at hc); go_simp; try with_reducible rfl)
          (try simp only [Act.put, List.setIfInBounds_toArray, List.set_cons_zero, List.set_cons_succ])
          refine Gen.take 8 (v := ?vv28) okC (by simp only [List.getElem?_toArray, List.getElem?_cons_zero, List.getElem?_cons_succ]; rfl) (by kernel_rfl) (by kernel_rfl) (by kernel_rfl) (Or.inl ⟨by rfl, ?hh28⟩) ?_
          case hh28 => (intro wg hSw; have hc := ktells hSw; (try dsimp only at hc); go_simp; try with_reducible rfl)
          (try simp only [Act.put, List.setIfInBounds_toArray, List.set_cons_zero, List.set_cons_succ])
          refine Gen.step inferInstance Gen.size 1 okC (by kernel_rfl) inferInstance (by simp) (fun wg hKg hSg => wpOp_of (by simp only [List.getElem?_toArray, List.getElem?_cons_zero, List.getElem?_cons_succ]; rfl) (by rfl) ?_)
          go_simp
          refine (mkTable_any _ _ _ (by omega) _ (by exact kget hKg (Below.refl _ _))).mono ?_
          rintro e wh ⟨v1, rfl, ⟨A1, c1, rfl, hc1, hr1, -⟩, hb1⟩
          (try dsimp only)
          refine Gen.more (F := kRds eRow A1 t) rfl hKg hb1 hr1 ?_
          clear hKg hSg
          clear hb1
          clear hr1
          refine Gen.step inferInstance Gen.size 9 okC (by kernel_rfl) inferInstance (by simp) (fun wg hKg hSg => wpOp_of (by simp only [List.getElem?_toArray, List.getElem?_cons_zero, List.getElem?_cons_succ]; rfl) (by rfl) ?_)
          go_simp
          refine (flash_is _ _ t _ _ _ _ _ _ _ (unhide HF1) (by omega) (by omega) _ (by exact kget hKg (Below.refl _ _))).mono ?_
          rintro e wh ⟨rfl, hb1⟩
          (try dsimp only)
          refine Gen.stay rfl hKg hb1 ?_
          clear hKg hSg
          clear hb1
          refine Gen.take 10 (v := ?vv29) okC (by simp only [List.getElem?_toArray, List.getElem?_cons_zero, List.getElem?_cons_succ]; rfl) (by kernel_rfl) (by kernel_rfl) (by kernel_rfl) (Or.inl ⟨by rfl, ?hh29⟩) ?_
          case hh29 => (intro wg hSw; have hc := ktells hSw; (try dsimp only at hc); go_simp; try with_reducible rfl)
          (try simp only [Act.put, List.setIfInBounds_toArray, List.set_cons_zero, List.set_cons_succ])
          refine Gen.take 11 (v := ?vv30) okC (by simp only [List.getElem?_toArray, List.getElem?_cons_zero, List.getElem?_cons_succ]; rfl) (by kernel_rfl) (by kernel_rfl) (by kernel_rfl) (Or.inl ⟨by rfl, ?hh30⟩) ?_
          case hh30 => (intro wg hSw; have hc := ktells hSw; (try dsimp only at hc); go_simp; try with_reducible rfl)
          (try simp only [Act.put, List.setIfInBounds_toArray, List.set_cons_zero, List.set_cons_succ])
          refine Gen.take 12 (v := ?vv31) okC (by simp only [List.getElem?_toArray, List.getElem?_cons_zero, List.getElem?_cons_succ]; rfl) (by kernel_rfl) (by kernel_rfl) (by kernel_rfl) (Or.inl ⟨by rfl, ?hh31⟩) ?_
          case hh31 => (intro wg hSw; have hc := ktells hSw; (try dsimp only at hc); go_simp; try with_reducible rfl)
          (try simp only [Act.put, List.setIfInBounds_toArray, List.set_cons_zero, List.set_cons_succ])
          refine Gen.finish inferInstance Gen.size okC (by kernel_rfl) inferInstance (by simp) ?_
          simp only [Gen.Fin, NewVar.put]
          (try simp only [Act.put, List.setIfInBounds_toArray, List.set_cons_zero, List.set_cons_succ])
          intro BC13 hnC13 wf hKf hSf
          obtain ⟨wu, rfl, hg13, hup⟩ := graft1 (fun W => Below V6.heap.size V6 W) hKf.1.1 hSf.1
          have hz13 := hKf.1.2
          clear hKf hSf
          refine Gen.one 14 (by kernel_rfl) (wpOp_of (by simp only [List.getElem?_toArray, List.getElem?_cons_zero, List.getElem?_cons_succ]; rfl) (by rfl) ?_)
          go_simp
          (try simp only [Act.put, List.setIfInBounds_toArray, List.set_cons_zero, List.set_cons_succ])
          refine ⟨⟨(belowRow hup hz13 _), kafter (unhide HKC) (belowRow hup hz13 _)⟩, ?_⟩
          refine Gen.one 15 (by kernel_rfl) (wpOp_of (by simp only [List.getElem?_toArray, List.getElem?_cons_zero, List.getElem?_cons_succ]; rfl) (by rfl) ?_)
          go_simp
          (try simp only [Act.put, List.setIfInBounds_toArray, List.set_cons_zero, List.set_cons_succ])
          refine ⟨⟨(belowRow hup hz13 _), kafter (unhide HKC) (belowRow hup hz13 _)⟩, ?_⟩
          refine Gen.done (K := (kAnd (kNew V6.heap.size BC13 _) _)) (by kernel_rfl) ⟨⟨(RowIs.same hg13 _), hz13⟩, kafter (unhide HKC) (belowRow hup hz13 _)⟩ (fun WC hKC => ?_) _
          clear okC hup hg13 hz13
          have HK := hide hKC
          have HC := ktells hKC
          (try dsimp only at HC)
          clear hKC
          go_wp2_with fail
          refine know_here (by (repeat (first | exact kk (unhide HK) | apply kkbox | apply kkdrew | apply kkdrewN | apply kkalloc))) ?_
          intro V7 hKD
          (try simp only [World.size_alloc] at hKD)
          (try simp only [World.size_drew] at hKD)
          have HKD := hide hKD
          have HCD := ktells hKD
          (try dsimp only at HCD)
          refine Gen.begin_ [⟨13, 23, #[.int .i64 0, .int .i64 0, .int .i64 0, .int .i64 0, .int .i64 0, .int .i64 0, .int .i64 0, .int .i64 0, .int .i64 0, .int .i64 0], 44⟩] 15 (by kernel_rfl) hKD (by rfl) ⟨fun x hx => by (simp only [List.mem_cons, List.not_mem_nil, or_false] at hx; rcases hx with rfl; all_goals exact ⟨_, by rfl, by rfl, by rfl, fun _ _ => by kernel_rfl⟩), by kernel_rfl, fun _ _ _ _ _ => Iff.rfl⟩ (fun okD => ?_)
          clear hKD
          refine Gen.take 0 (v := ?vv32) okD (by simp only [List.getElem?_toArray, List.getElem?_cons_zero]; rfl) (by kernel_rfl) (by kernel_rfl) (by kernel_rfl) (Or.inl ⟨by rfl, ?hh32⟩) ?_
          case hh32 => (intro wg hSw; have hc := ktells hSw; (try dsimp only at hc); go_simp; try with_reducible rfl)
          (try simp only [Act.put, List.setIfInBounds_toArray, List.set_cons_zero, List.set_cons_succ])
          refine Gen.take 2 (v := ?vv33) okD (by simp only [List.getElem?_toArray, List.getElem?_cons_zero, List.getElem?_cons_succ]; rfl) (by kernel_rfl) (by kernel_rfl) (by kernel_rfl) (Or.inl ⟨by rfl, ?hh33⟩) ?_
          case hh33 => (intro wg hSw; have hc := ktells hSw; (try dsimp only at hc); go_simp; try with_reducible rfl)
          (try simp only [Act.put, List.setIfInBounds_toArray, List.set_cons_zero, List.set_cons_succ])
          refine Gen.take 3 (v := ?vv34) okD (by simp only [List.getElem?_toArray, List.getElem?_cons_zero, List.getElem?_cons_succ]; rfl) (by kernel_rfl) (by kernel_rfl) (by kernel_rfl) (Or.inl ⟨by rfl, ?hh34⟩) ?_
          case hh34 => (intro wg hSw; have hc := ktells hSw; (try dsimp only at hc); go_simp; try with_reducible rfl)
          (try simp only [Act.put, List.setIfInBounds_toArray, List.set_cons_zero, List.set_cons_succ])
          refine Gen.take 4 (v := ?vv35) okD (by simp only [List.getElem?_toArray, List.getElem?_cons_zero, List.getElem?_cons_succ]; rfl) (by kernel_rfl) (by kernel_rfl) (by kernel_rfl) (Or.inl ⟨by rfl, ?hh35⟩) ?_
          case hh35 => (intro wg hSw; have hc := ktells hSw; (try dsimp only at hc); go_simp; try with_reducible rfl)
          (try simp only [Act.put, List.setIfInBounds_toArray, List.set_cons_zero, List.set_cons_succ])
          refine Gen.take 5 (v := ?vv36) okD (by simp only [List.getElem?_toArray, List.getElem?_cons_zero, List.getElem?_cons_succ]; rfl) (by kernel_rfl) (by kernel_rfl) (by kernel_rfl) (Or.inl ⟨by rfl, ?hh36⟩) ?_
          case hh36 => (intro wg hSw; have hc := ktells hSw; (try dsimp only at hc); go_simp; try with_reducible rfl)
          (try simp only [Act.put, List.setIfInBounds_toArray, List.set_cons_zero, List.set_cons_succ])
          refine Gen.take 6 (v := ?vv37) okD (by simp only [List.getElem?_toArray, List.getElem?_cons_zero, List.getElem?_cons_succ]; rfl) (by kernel_rfl) (by kernel_rfl) (by kernel_rfl) (Or.inl ⟨by rfl, ?hh37⟩) ?_
          case hh37 => (intro wg hSw; have hc := ktells hSw; (try dsimp only at hc); go_simp; try with_reducible rfl)
          (try simp only [Act.put, List.setIfInBounds_toArray, List.set_cons_zero, List.set_cons_succ])
          refine Gen.take 7 (v := ?vv38) okD (by simp only [List.getElem?_toArray, List.getElem?_cons_zero, List.getElem?_cons_succ]; rfl) (by kernel_rfl) (by kernel_rfl) (by kernel_rfl) (Or.inl ⟨by rfl, ?hh38⟩) ?_
          case hh38 => (intro wg hSw; have hc := ktells hSw; (try dsimp only at hc); go_simp; try with_reducible rfl)
          (try simp only [Act.put, List.setIfInBounds_toArray, List.set_cons_zero, List.set_cons_succ])
          refine Gen.take 8 (v := ?vv39) okD (by simp only [List.getElem?_toArray, List.getElem?_cons_zero, List.getElem?_cons_succ]; rfl) (by kernel_rfl) (by kernel_rfl) (by kernel_rfl) (Or.inl ⟨by rfl, ?hh39⟩) ?_
          case hh39 => (intro wg hSw; have hc := ktells hSw; (try dsimp only at hc); go_simp; try with_reducible rfl)
          (try simp only [Act.put, List.setIfInBounds_toArray, List.set_cons_zero, List.set_cons_succ])
          refine Gen.step inferInstance Gen.size 1 okD (by kernel_rfl) inferInstance (by simp) (fun wg hKg hSg => wpOp_of (by simp only [List.getElem?_toArray, List.getElem?_cons_zero, List.getElem?_cons_succ]; rfl) (by rfl) ?_)
          go_simp
          refine (mkTable_any _ _ _ (by omega) _ (by exact kget hKg (Below.refl _ _))).mono ?_
          rintro e wh ⟨v1, rfl, ⟨A1, c1, rfl, hc1, hr1, -⟩, hb1⟩
          (try dsimp only)
          refine Gen.more (F := kRds eRow A1 t) rfl hKg hb1 hr1 ?_
          clear hKg hSg
          clear hb1
          clear hr1
          refine Gen.step inferInstance Gen.size 9 okD (by kernel_rfl) inferInstance (by simp) (fun wg hKg hSg => wpOp_of (by simp only [List.getElem?_toArray, List.getElem?_cons_zero, List.getElem?_cons_succ]; rfl) (by rfl) ?_)
          go_simp
          refine (flash_is _ _ t _ _ _ _ _ _ _ (unhide HF2) (by omega) (by omega) _ (by exact kget hKg (Below.refl _ _))).mono ?_
          rintro e wh ⟨rfl, hb1⟩
          (try dsimp only)
          refine Gen.stay rfl hKg hb1 ?_
          clear hKg hSg
          clear hb1
          refine Gen.take 10 (v := ?vv40) okD (by simp only [List.getElem?_toArray, List.getElem?_cons_zero, List.getElem?_cons_succ]; rfl) (by kernel_rfl) (by kernel_rfl) (by kernel_rfl) (Or.inl ⟨by rfl, ?hh40⟩) ?_
          case hh40 => (intro wg hSw; have hc := ktells hSw; (try dsimp only at hc); go_simp; try with_reducible rfl)
          (try simp only [Act.put, List.setIfInBounds_toArray, List.set_cons_zero, List.set_cons_succ])
          refine Gen.take 11 (v := ?vv41) okD (by simp only [List.getElem?_toArray, List.getElem?_cons_zero, List.getElem?_cons_succ]; rfl) (by kernel_rfl) (by kernel_rfl) (by kernel_rfl) (Or.inl ⟨by rfl, ?hh41⟩) ?_
          case hh41 => (intro wg hSw; have hc := ktells hSw; (try dsimp only at hc); go_simp; try with_reducible rfl)
          (try simp only [Act.put, List.setIfInBounds_toArray, List.set_cons_zero, List.set_cons_succ])
          refine Gen.take 12 (v := ?vv42) okD (by simp only [List.getElem?_toArray, List.getElem?_cons_zero, List.getElem?_cons_succ]; rfl) (by kernel_rfl) (by kernel_rfl) (by kernel_rfl) (Or.inl ⟨by rfl, ?hh42⟩) ?_
          case hh42 => (intro wg hSw; have hc := ktells hSw; (try dsimp only at hc); go_simp; try with_reducible rfl)
          (try simp only [Act.put, List.setIfInBounds_toArray, List.set_cons_zero, List.set_cons_succ])
          refine Gen.finish inferInstance Gen.size okD (by kernel_rfl) inferInstance (by simp) ?_
          simp only [Gen.Fin, NewVar.put]
          (try simp only [Act.put, List.setIfInBounds_toArray, List.set_cons_zero, List.set_cons_succ])
          intro BD13 hnD13 wf hKf hSf
          obtain ⟨wu, rfl, hg13, hup⟩ := graft1 (fun W => Below V7.heap.size V7 W) hKf.1.1 hSf.1
          have hz13 := hKf.1.2
          clear hKf hSf
          refine Gen.one 14 (by kernel_rfl) (wpOp_of (by simp only [List.getElem?_toArray, List.getElem?_cons_zero, List.getElem?_cons_succ]; rfl) (by rfl) ?_)
          go_simp
          (try simp only [Act.put, List.setIfInBounds_toArray, List.set_cons_zero, List.set_cons_succ])
          refine ⟨⟨(belowRow hup hz13 _), kafter (unhide HKD) (belowRow hup hz13 _)⟩, ?_⟩
          refine Gen.one 15 (by kernel_rfl) (wpOp_of (by simp only [List.getElem?_toArray, List.getElem?_cons_zero, List.getElem?_cons_succ]; rfl) (by rfl) ?_)
          go_simp
          (try simp only [Act.put, List.setIfInBounds_toArray, List.set_cons_zero, List.set_cons_succ])
          refine ⟨⟨(belowRow hup hz13 _), kafter (unhide HKD) (belowRow hup hz13 _)⟩, ?_⟩
          refine Gen.done (K := (kAnd (kNew V7.heap.size BD13 _) _)) (by kernel_rfl) ⟨⟨(RowIs.same hg13 _), hz13⟩, kafter (unhide HKD) (belowRow hup hz13 _)⟩ (fun WD hKD => ?_) _
          clear okD hup hg13 hz13
          have HK := hide hKD
          have HC := ktells hKD
          (try dsimp only at HC)
          clear hKD
          go_wp2_with (first | (go_at_call 17; refine know_at (by (repeat (first | exact kk (unhide HK) | apply kkbox | apply kkdrew | apply kkdrewN | apply kkalloc))) (fun hKa => ?_); (try simp only [World.size_alloc] at hKa); (try simp only [World.size_drew] at hKa); refine (awake_any _).mono ?_; rintro e w1 ⟨rfl, hb1⟩; have HK := hide (kafter hKa hb1); clear hKa hb1; have HC := ktells (unhide HK); (try dsimp only at HC)) | (go_at_call 31; refine (refIn_any _ _ _ _).mono ?_; rintro e w2 ⟨rfl, rfl⟩))
          all_goals (go_ret; exact ⟨rfl, kup (unhide HK)⟩)
end Go.Proofs.Ytenpbiineblcjaa
