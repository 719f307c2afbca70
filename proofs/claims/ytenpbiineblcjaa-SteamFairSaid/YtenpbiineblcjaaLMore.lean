/-
  The walk of SteamMore: it returns true for every table, level, stream and more heat, and leaves what lay as it lay.
-/
import Derived.Test.YtenpbiineblcjaaRefB
import Derived.Test.YtenpbiineblcjaaFlashP
import Derived.Test.YtenpbiineblcjaaGen
import Derived.Deep.DeepCutAuto
namespace Go.Proofs.Ytenpbiineblcjaa
open Go.RowKit Go.Shelf

theorem flash_is (A : Option Addr) (c : Nat) (t : List RowT) (level M H S G : Int) (p : PartT) (er : Int) (h : flashR t level ⟨M, H, S, G⟩ = (p, er)) (hn : t.length ≤ 9223372036854775807) (hc : t.length ≤ c) (w : World) (hr : Rds eRow w w.heap.size A t) :
    Calls Try.prog 25 #[.slice A t.length c, .int .i64 level, .agg #[.int .i64 M, .int .i64 H, .int .i64 S, .int .i64 G]] w fun e w' => e = .returned (.tuple #[vPart p, .int .i64 er]) ∧ Below w.heap.size w w' := by
  have := flash_any A c t level ⟨M, H, S, G⟩ hn hc w hr
  rw [h] at this
  exact this
theorem refRight_is (A : Option Addr) (c : Nat) (t : List RowT) (b : Bool) (h : tabOk t = b) (hn : t.length ≤ 9223372036854775807) (w : World) (hr : Rds eRow w w.heap.size A t) :
    Calls Try.prog 21 #[.slice A t.length c] w fun e w' => e = .returned (.bool b) ∧ Below w.heap.size w w' := by
  subst h
  exact refRight_any A c t hn w hr


set_option maxRecDepth 100000 in
set_option maxHeartbeats 6400000 in
theorem lawMore_any (A : Option Addr) (c : Nat) (t : List RowT) (lv : Int) (s : StrT) (mo : Int) (hn : t.length ≤ 9223372036854775807) (l0 : 0 ≤ lv) (l1 : lv ≤ 255) (m0 : 0 ≤ mo) (m1 : mo ≤ 4294967295) (w : World) (hr : Rds eRow w w.heap.size A t) :
    Calls Try.prog 4 #[.slice A t.length c, .int .u8 lv, vStr s, .int .u32 mo] w fun e w' => e = .returned (.bool true) ∧ Below w.heap.size w w' := by
  have HK : Hid (kAnd (kRds eRow A t) (kUp w) w) := hide ⟨hr, Below.refl _ _⟩
  clear hr
  cases ht : tabOk t with
  | false =>
    have HT := hide ht
    clear ht
    obtain ⟨M, H, S, G⟩ := s
    go_enter Try.func4, Try.ntmps4
    go_wp2_with (first | (go_at_call 17; refine know_at (by (repeat (first | exact kk (unhide HK) | apply kkbox | apply kkdrew | apply kkdrewN | apply kkalloc))) (fun hKa => ?_); (try simp only [World.size_alloc] at hKa); (try simp only [World.size_drew] at hKa); refine (awake_any _).mono ?_; rintro e w1 ⟨rfl, hb1⟩; have HK := hide (kafter hKa hb1); clear hKa hb1; have HC := ktells (unhide HK); (try dsimp only at HC)) | (go_at_call 21; refine know_at (by (repeat (first | exact kk (unhide HK) | apply kkbox | apply kkdrew | apply kkdrewN | apply kkalloc))) (fun hKa => ?_); (try simp only [World.size_alloc] at hKa); (try simp only [World.size_drew] at hKa); refine (refRight_is _ _ _ _ (unhide HT) (by omega) _ (by exact kget hKa (Below.refl _ _))).mono ?_; rintro e w1 ⟨rfl, hb1⟩; have HK := hide (kafter hKa hb1); clear hKa hb1; have HC := ktells (unhide HK); (try dsimp only at HC)))
    all_goals (go_ret; exact ⟨rfl, kup (unhide HK)⟩)
  | true =>
    have HT := hide ht
    cases hs : strOk s with
    | false =>
      have HS := hide hs
      clear ht hs
      obtain ⟨M, H, S, G⟩ := s
      go_enter Try.func4, Try.ntmps4
      go_wp2_with (first | (go_at_call 17; refine know_at (by (repeat (first | exact kk (unhide HK) | apply kkbox | apply kkdrew | apply kkdrewN | apply kkalloc))) (fun hKa => ?_); (try simp only [World.size_alloc] at hKa); (try simp only [World.size_drew] at hKa); refine (awake_any _).mono ?_; rintro e w1 ⟨rfl, hb1⟩; have HK := hide (kafter hKa hb1); clear hKa hb1; have HC := ktells (unhide HK); (try dsimp only at HC)) | (go_at_call 21; refine know_at (by (repeat (first | exact kk (unhide HK) | apply kkbox | apply kkdrew | apply kkdrewN | apply kkalloc))) (fun hKa => ?_); (try simp only [World.size_alloc] at hKa); (try simp only [World.size_drew] at hKa); refine (refRight_is _ _ _ _ (unhide HT) (by omega) _ (by exact kget hKa (Below.refl _ _))).mono ?_; rintro e w1 ⟨rfl, hb1⟩; have HK := hide (kafter hKa hb1); clear hKa hb1; have HC := ktells (unhide HK); (try dsimp only at HC)) | (go_at_call 24; refine (rightStr_is _ _ _ _ _ (unhide HS) _).mono ?_; rintro e w1 ⟨rfl, o1, rfl⟩))
      all_goals (go_ret; exact ⟨rfl, kup (unhide HK)⟩)
    | true =>
      have HS := hide hs
      obtain ⟨t2, t20⟩ := tabOk_len ht
      have B := strOk_iff.1 hs
      obtain ⟨M, H, S, G⟩ := s
      obtain ⟨x0, x1, x2, x3, x4, x5, x6, x7⟩ := B
      dsimp only at x0 x1 x2 x3 x4 x5 x6 x7
      obtain ⟨lvn, rfl⟩ := Int.eq_ofNat_of_zero_le l0
      obtain ⟨nn, hnn⟩ : ∃ nn, nn = lvn % t.length := ⟨_, rfl⟩
      have hnl : nn < t.length := by rw [hnn]; exact Nat.mod_lt _ (by omega)
      have hmod : (lvn : Int) % (t.length : Int) = (nn : Int) := by rw [hnn]; simp
      obtain ⟨H2, hH2⟩ : ∃ H2, H2 = min (4000 * M) (H + mo) := ⟨_, rfl⟩
      have hh1 : H ≤ H2 := by rw [hH2]; omega
      have hh2 : H2 ≤ 4000 * M := by rw [hH2]; omega
      have hx := rowAt_get (t := t) (level := (nn : Int)) (by omega) (by omega)
      rw [Int.toNat_natCast] at hx
      have hrow := tabOk_row ht hx
      have hlv : inB (nn : Int) 0 (t.length - 1) = true := inB_of (by omega) (by omega)
      have hs2 : strOk ⟨M, H2, S, G⟩ = true := strOk_iff.2 ⟨x0, x1, by dsimp only; omega, hh2, x4, x5, x6, x7⟩
      have HF1 := hide (show flashR t (nn : Int) ⟨M, H, S, G⟩ = (flashOf (rowAt t nn) ⟨M, H, S, G⟩, 0) by simp [flashR, ht, hlv, hs])
      have HF2 := hide (show flashR t (nn : Int) ⟨M, H2, S, G⟩ = (flashOf (rowAt t nn) ⟨M, H2, S, G⟩, 0) by simp [flashR, ht, hlv, hs2])
      have fm : (flashOf (rowAt t nn) ⟨M, H, S, G⟩).st.M ≤ (flashOf (rowAt t nn) ⟨M, H2, S, G⟩).st.M := by
        rw [flash_st, flash_st]
        exact steam_mono hrow (strOk_iff.1 hs) rfl hh1
      obtain ⟨fr0, fr1⟩ := flash_rest (s := ⟨M, H, S, G⟩) hrow
      have hpw : 0 ≤ (flashOf (rowAt t nn) ⟨M, H, S, G⟩).st.M ∧ (flashOf (rowAt t nn) ⟨M, H, S, G⟩).st.M ≤ M ∧ (flashOf (rowAt t nn) ⟨M, H, S, G⟩).wa.M = M - (flashOf (rowAt t nn) ⟨M, H, S, G⟩).st.M := by
        obtain ⟨a, b⟩ := steamOf_bd hrow (strOk_iff.1 hs)
        rw [flash_st, flash_wa]
        exact ⟨a, b, rfl⟩
      have hboth := hide (fun a b => @flash_both _ ⟨M, H, S, G⟩ hrow a b)
      have helse := hide (fun a => @flash_else _ ⟨M, H, S, G⟩ hrow (strOk_iff.1 hs) a)
      have HX := hide hx
      clear ht hs hs2 hlv hx
      generalize flashOf (rowAt t nn) ⟨M, H, S, G⟩ = p at *
      generalize flashOf (rowAt t nn) ⟨M, H2, S, G⟩ = q at *
      generalize rowAt t nn = r at *
      obtain ⟨⟨p1, p2, p3, p4⟩, ⟨p5, p6, p7, p8⟩, p9, pz⟩ := p
      obtain ⟨⟨q1, q2, q3, q4⟩, ⟨q5, q6, q7, q8⟩, q9, qz⟩ := q
      obtain ⟨T, P, L, V, Sx⟩ := r
      obtain ⟨_, _, _, _, r0, r1, r2, r3, r4⟩ := hrow
      dsimp only at *
      obtain ⟨y0, y1, y2⟩ := hpw
      have u1 := mul_bd (a := p1) (b := V) (A := 1000000) (B := 4000) y0 (by omega) (by omega) r2
      have u2 := mul_bd (a := p5) (b := L) (A := 1000000) (B := 4000) (by omega) (by omega) r0 (by omega)
      have u3 := mul_bd (a := p5) (b := Sx) (A := 1000000) (B := 2000) (by omega) (by omega) r3 r4
      have u4 := mul_bd (a := M) (b := V) (A := 1000000) (B := 4000) x0 x1 (by omega) r2
      have hmin : min (4000 * M) (H + mo) = H2 := hH2.symm
      have htm : (lvn : Int).tmod (t.length : Int) = (nn : Int) := by rw [Int.tmod_eq_emod_of_nonneg (by omega)]; exact hmod
      have Y2 := hide y2
      clear hH2 hnn y2
      go_enter Try.func4, Try.ntmps4
      go_upto_region 6 with (first | (go_at_call 17; refine know_at (by (repeat (first | exact kk (unhide HK) | apply kkbox | apply kkdrew | apply kkdrewN | apply kkalloc))) (fun hKa => ?_); (try simp only [World.size_alloc] at hKa); (try simp only [World.size_drew] at hKa); refine (awake_any _).mono ?_; rintro e w1 ⟨rfl, hb1⟩; have HK := hide (kafter hKa hb1); clear hKa hb1; have HC := ktells (unhide HK); (try dsimp only at HC)) | (go_at_call 21; refine know_at (by (repeat (first | exact kk (unhide HK) | apply kkbox | apply kkdrew | apply kkdrewN | apply kkalloc))) (fun hKa => ?_); (try simp only [World.size_alloc] at hKa); (try simp only [World.size_drew] at hKa); refine (refRight_is _ _ _ _ (unhide HT) (by omega) _ (by exact kget hKa (Below.refl _ _))).mono ?_; rintro e w1 ⟨rfl, hb1⟩; have HK := hide (kafter hKa hb1); clear hKa hb1; have HC := ktells (unhide HK); (try dsimp only at HC)) | (go_at_call 24; refine (rightStr_is _ _ _ _ _ (unhide HS) _).mono ?_; rintro e w1 ⟨rfl, o1, rfl⟩))
      refine know_here (by (repeat (first | exact kk (unhide HK) | apply kkbox | apply kkdrew | apply kkdrewN | apply kkalloc))) ?_
      intro WA hKA
      (try simp only [World.size_alloc] at hKA)
      (try simp only [World.size_drew] at hKA)
      have HKA := hide hKA
      have HCA := ktells hKA
      (try dsimp only at HCA)
      refine Gen.begin_ [⟨9, 11, #[.int .i64 0, .int .i64 0, .int .i64 0, .int .i64 0, .int .i64 0, .int .i64 0, .int .i64 0, .int .i64 0, .int .i64 0, .int .i64 0], 44⟩] 11 (by kernel_rfl) hKA (by rfl) ⟨fun x hx => by (simp only [List.mem_cons, List.not_mem_nil, or_false] at hx; rcases hx with rfl; all_goals exact ⟨_, by rfl, by rfl, by rfl, fun _ _ => by kernel_rfl⟩), by kernel_rfl, fun _ _ _ _ _ => Iff.rfl⟩ (fun okA => ?_)
      clear hKA
      refine Gen.take 0 (v := ?vA0) okA (by simp only [List.getElem?_toArray, List.getElem?_cons_zero]; rfl) (by kernel_rfl) (by kernel_rfl) (by kernel_rfl) (Or.inl ⟨by rfl, ?hA0⟩) ?_
      case hA0 => (intro wg hSw; have hc := ktells hSw; (try dsimp only at hc); go_simp; try with_reducible rfl)
      (try simp only [Act.put, List.setIfInBounds_toArray, List.set_cons_zero, List.set_cons_succ])
      refine Gen.take 2 (v := ?vA2) okA (by simp only [List.getElem?_toArray, List.getElem?_cons_zero, List.getElem?_cons_succ]; rfl) (by kernel_rfl) (by kernel_rfl) (by kernel_rfl) (Or.inl ⟨by rfl, ?hA2⟩) ?_
      case hA2 => (intro wg hSw; have hc := ktells hSw; (try dsimp only at hc); go_simp; try with_reducible rfl)
      (try simp only [Act.put, List.setIfInBounds_toArray, List.set_cons_zero, List.set_cons_succ])
      refine Gen.take 3 (v := ?vA3) okA (by simp only [List.getElem?_toArray, List.getElem?_cons_zero, List.getElem?_cons_succ]; rfl) (by kernel_rfl) (by kernel_rfl) (by kernel_rfl) (Or.inl ⟨by rfl, ?hA3⟩) ?_
      case hA3 => (intro wg hSw; have hc := ktells hSw; (try dsimp only at hc); go_simp; try with_reducible rfl)
      (try simp only [Act.put, List.setIfInBounds_toArray, List.set_cons_zero, List.set_cons_succ])
      refine Gen.step inferInstance Gen.size 1 okA (by kernel_rfl) inferInstance (by simp) (fun wg hKg hSg => wpOp_of (by simp only [List.getElem?_toArray, List.getElem?_cons_zero, List.getElem?_cons_succ]; rfl) (by rfl) ?_)
      go_simp
      refine (mkTable_any _ _ _ (by omega) _ (by exact kget hKg (Below.refl _ _))).mono ?_
      rintro e wh ⟨v1, rfl, ⟨A1, c1, rfl, hc1, hr1, -⟩, hb1⟩
      (try dsimp only)
      refine Gen.more (F := kRds eRow A1 t) rfl hKg hb1 hr1 ?_
      clear hKg hSg
      clear hb1
      clear hr1
      refine Gen.step inferInstance Gen.size 4 okA (by kernel_rfl) inferInstance (by simp) (fun wg hKg hSg => wpOp_of (by simp only [List.getElem?_toArray, List.getElem?_cons_zero, List.getElem?_cons_succ]; rfl) (by rfl) ?_)
      go_simp
      refine (mkStr_is _ _ _ _ _).mono ?_
      rintro e wh ⟨rfl, o1, o2, rfl⟩
      (try dsimp only)
      refine Gen.stay rfl hKg (by (repeat (first | exact Below.refl _ _ | refine Below.allocs ?_ _ | refine Below.drew ?_ | refine Below.drewNs ?_ _))) ?_
      clear hKg hSg
      refine Gen.step inferInstance Gen.size 5 okA (by kernel_rfl) inferInstance (by simp) (fun wg hKg hSg => wpOp_of (by simp only [List.getElem?_toArray, List.getElem?_cons_zero, List.getElem?_cons_succ]; rfl) (by rfl) ?_)
      go_simp
      refine (flash_is _ _ t _ _ _ _ _ _ _ (unhide HF1) (by omega) (by omega) _ (by exact kget hKg (Below.refl _ _))).mono ?_
      rintro e wh ⟨rfl, hb1⟩
      (try dsimp only)
      refine Gen.stay rfl hKg hb1 ?_
      clear hKg hSg
      clear hb1
      refine Gen.take 6 (v := ?vA6) okA (by simp only [List.getElem?_toArray, List.getElem?_cons_zero, List.getElem?_cons_succ]; rfl) (by kernel_rfl) (by kernel_rfl) (by kernel_rfl) (Or.inl ⟨by rfl, ?hA6⟩) ?_
      case hA6 => (intro wg hSw; have hc := ktells hSw; (try dsimp only at hc); go_simp; try with_reducible rfl)
      (try simp only [Act.put, List.setIfInBounds_toArray, List.set_cons_zero, List.set_cons_succ])
      refine Gen.take 7 (v := ?vA7) okA (by simp only [List.getElem?_toArray, List.getElem?_cons_zero, List.getElem?_cons_succ]; rfl) (by kernel_rfl) (by kernel_rfl) (by kernel_rfl) (Or.inl ⟨by rfl, ?hA7⟩) ?_
      case hA7 => (intro wg hSw; have hc := ktells hSw; (try dsimp only at hc); go_simp; try with_reducible rfl)
      (try simp only [Act.put, List.setIfInBounds_toArray, List.set_cons_zero, List.set_cons_succ])
      refine Gen.take 8 (v := ?vA8) okA (by simp only [List.getElem?_toArray, List.getElem?_cons_zero, List.getElem?_cons_succ]; rfl) (by kernel_rfl) (by kernel_rfl) (by kernel_rfl) (Or.inl ⟨by rfl, ?hA8⟩) ?_
      case hA8 => (intro wg hSw; have hc := ktells hSw; (try dsimp only at hc); go_simp; try with_reducible rfl)
      (try simp only [Act.put, List.setIfInBounds_toArray, List.set_cons_zero, List.set_cons_succ])
      refine Gen.finish inferInstance Gen.size okA (by kernel_rfl) inferInstance (by simp) ?_
      simp only [Gen.Fin, NewVar.put]
      (try simp only [Act.put, List.setIfInBounds_toArray, List.set_cons_zero, List.set_cons_succ])
      intro BA9 hnA9 wf hKf hSf
      obtain ⟨wu, rfl, hg9, hup⟩ := graft1 (fun W => Below WA.heap.size WA W) hKf.1.1 hSf.1
      have hz9 := hKf.1.2
      clear hKf hSf
      refine Gen.one 10 (by kernel_rfl) (wpOp_of (by simp only [List.getElem?_toArray, List.getElem?_cons_zero, List.getElem?_cons_succ]; rfl) (by rfl) ?_)
      go_simp
      (try simp only [Act.put, List.setIfInBounds_toArray, List.set_cons_zero, List.set_cons_succ])
      refine ⟨⟨(belowRow hup hz9 _), kafter (unhide HKA) (belowRow hup hz9 _)⟩, ?_⟩
      refine Gen.one 11 (by kernel_rfl) (wpOp_of (by simp only [List.getElem?_toArray, List.getElem?_cons_zero, List.getElem?_cons_succ]; rfl) (by rfl) ?_)
      go_simp
      (try simp only [Act.put, List.setIfInBounds_toArray, List.set_cons_zero, List.set_cons_succ])
      refine ⟨⟨(belowRow hup hz9 _), kafter (unhide HKA) (belowRow hup hz9 _)⟩, ?_⟩
      refine Gen.done (K := (kAnd (kNew WA.heap.size BA9 _) _)) (by kernel_rfl) ⟨⟨(RowIs.same hg9 _), hz9⟩, kafter (unhide HKA) (belowRow hup hz9 _)⟩ (fun WA hKA => ?_) _
      clear okA hup hg9 hz9
      have HK := hide hKA
      have HC := ktells hKA
      (try dsimp only at HC)
      clear hKA
      go_wp2_with fail
      refine know_here (by (repeat (first | exact kk (unhide HK) | apply kkbox | apply kkdrew | apply kkdrewN | apply kkalloc))) ?_
      intro WC hKB
      (try simp only [World.size_alloc] at hKB)
      (try simp only [World.size_drew] at hKB)
      have HKB := hide hKB
      have HCB := ktells hKB
      (try dsimp only at HCB)
      refine Gen.begin_ [⟨9, 13, #[.int .i64 0, .int .i64 0, .int .i64 0, .int .i64 0, .int .i64 0, .int .i64 0, .int .i64 0, .int .i64 0, .int .i64 0, .int .i64 0], 44⟩] 11 (by kernel_rfl) hKB (by rfl) ⟨fun x hx => by (simp only [List.mem_cons, List.not_mem_nil, or_false] at hx; rcases hx with rfl; all_goals exact ⟨_, by rfl, by rfl, by rfl, fun _ _ => by kernel_rfl⟩), by kernel_rfl, fun _ _ _ _ _ => Iff.rfl⟩ (fun okB => ?_)
      clear hKB
      refine Gen.take 0 (v := ?vB0) okB (by simp only [List.getElem?_toArray, List.getElem?_cons_zero]; rfl) (by kernel_rfl) (by kernel_rfl) (by kernel_rfl) (Or.inl ⟨by rfl, ?hB0⟩) ?_
      case hB0 => (intro wg hSw; have hc := ktells hSw; (try dsimp only at hc); go_simp; try with_reducible rfl)
      (try simp only [Act.put, List.setIfInBounds_toArray, List.set_cons_zero, List.set_cons_succ])
      refine Gen.take 2 (v := ?vB2) okB (by simp only [List.getElem?_toArray, List.getElem?_cons_zero, List.getElem?_cons_succ]; rfl) (by kernel_rfl) (by kernel_rfl) (by kernel_rfl) (Or.inl ⟨by rfl, ?hB2⟩) ?_
      case hB2 => (intro wg hSw; have hc := ktells hSw; (try dsimp only at hc); go_simp; try with_reducible rfl)
      (try simp only [Act.put, List.setIfInBounds_toArray, List.set_cons_zero, List.set_cons_succ])
      refine Gen.take 3 (v := ?vB3) okB (by simp only [List.getElem?_toArray, List.getElem?_cons_zero, List.getElem?_cons_succ]; rfl) (by kernel_rfl) (by kernel_rfl) (by kernel_rfl) (Or.inl ⟨by rfl, ?hB3⟩) ?_
      case hB3 => (intro wg hSw; have hc := ktells hSw; (try dsimp only at hc); go_simp; try with_reducible rfl)
      (try simp only [Act.put, List.setIfInBounds_toArray, List.set_cons_zero, List.set_cons_succ])
      refine Gen.step inferInstance Gen.size 1 okB (by kernel_rfl) inferInstance (by simp) (fun wg hKg hSg => wpOp_of (by simp only [List.getElem?_toArray, List.getElem?_cons_zero, List.getElem?_cons_succ]; rfl) (by rfl) ?_)
      go_simp
      refine (mkTable_any _ _ _ (by omega) _ (by exact kget hKg (Below.refl _ _))).mono ?_
      rintro e wh ⟨v1, rfl, ⟨A2, c2, rfl, hc2, hr1, -⟩, hb1⟩
      (try dsimp only)
      refine Gen.more (F := kRds eRow A2 t) rfl hKg hb1 hr1 ?_
      clear hKg hSg
      clear hb1
      clear hr1
      refine Gen.step inferInstance Gen.size 4 okB (by kernel_rfl) inferInstance (by simp) (fun wg hKg hSg => wpOp_of (by simp only [List.getElem?_toArray, List.getElem?_cons_zero, List.getElem?_cons_succ]; rfl) (by rfl) ?_)
      go_simp
      refine (mkStr_is _ _ _ _ _).mono ?_
      rintro e wh ⟨rfl, o1, o2, rfl⟩
      (try dsimp only)
      refine Gen.stay rfl hKg (by (repeat (first | exact Below.refl _ _ | refine Below.allocs ?_ _ | refine Below.drew ?_ | refine Below.drewNs ?_ _))) ?_
      clear hKg hSg
      refine Gen.step inferInstance Gen.size 5 okB (by kernel_rfl) inferInstance (by simp) (fun wg hKg hSg => wpOp_of (by simp only [List.getElem?_toArray, List.getElem?_cons_zero, List.getElem?_cons_succ]; rfl) (by rfl) ?_)
      go_simp
      refine (flash_is _ _ t _ _ _ _ _ _ _ (unhide HF2) (by omega) (by omega) _ (by exact kget hKg (Below.refl _ _))).mono ?_
      rintro e wh ⟨rfl, hb1⟩
      (try dsimp only)
      refine Gen.stay rfl hKg hb1 ?_
      clear hKg hSg
      clear hb1
      refine Gen.take 6 (v := ?vB6) okB (by simp only [List.getElem?_toArray, List.getElem?_cons_zero, List.getElem?_cons_succ]; rfl) (by kernel_rfl) (by kernel_rfl) (by kernel_rfl) (Or.inl ⟨by rfl, ?hB6⟩) ?_
      case hB6 => (intro wg hSw; have hc := ktells hSw; (try dsimp only at hc); go_simp; try with_reducible rfl)
      (try simp only [Act.put, List.setIfInBounds_toArray, List.set_cons_zero, List.set_cons_succ])
      refine Gen.take 7 (v := ?vB7) okB (by simp only [List.getElem?_toArray, List.getElem?_cons_zero, List.getElem?_cons_succ]; rfl) (by kernel_rfl) (by kernel_rfl) (by kernel_rfl) (Or.inl ⟨by rfl, ?hB7⟩) ?_
      case hB7 => (intro wg hSw; have hc := ktells hSw; (try dsimp only at hc); go_simp; try with_reducible rfl)
      (try simp only [Act.put, List.setIfInBounds_toArray, List.set_cons_zero, List.set_cons_succ])
      refine Gen.take 8 (v := ?vB8) okB (by simp only [List.getElem?_toArray, List.getElem?_cons_zero, List.getElem?_cons_succ]; rfl) (by kernel_rfl) (by kernel_rfl) (by kernel_rfl) (Or.inl ⟨by rfl, ?hB8⟩) ?_
      case hB8 => (intro wg hSw; have hc := ktells hSw; (try dsimp only at hc); go_simp; try with_reducible rfl)
      (try simp only [Act.put, List.setIfInBounds_toArray, List.set_cons_zero, List.set_cons_succ])
      refine Gen.finish inferInstance Gen.size okB (by kernel_rfl) inferInstance (by simp) ?_
      simp only [Gen.Fin, NewVar.put]
      (try simp only [Act.put, List.setIfInBounds_toArray, List.set_cons_zero, List.set_cons_succ])
      intro BB9 hnB9 wf hKf hSf
      obtain ⟨wu, rfl, hg9, hup⟩ := graft1 (fun W => Below WC.heap.size WC W) hKf.1.1 hSf.1
      have hz9 := hKf.1.2
      clear hKf hSf
      refine Gen.one 10 (by kernel_rfl) (wpOp_of (by simp only [List.getElem?_toArray, List.getElem?_cons_zero, List.getElem?_cons_succ]; rfl) (by rfl) ?_)
      go_simp
      (try simp only [Act.put, List.setIfInBounds_toArray, List.set_cons_zero, List.set_cons_succ])
      refine ⟨⟨(belowRow hup hz9 _), kafter (unhide HKB) (belowRow hup hz9 _)⟩, ?_⟩
      refine Gen.one 11 (by kernel_rfl) (wpOp_of (by simp only [List.getElem?_toArray, List.getElem?_cons_zero, List.getElem?_cons_succ]; rfl) (by rfl) ?_)
      go_simp
      (try simp only [Act.put, List.setIfInBounds_toArray, List.set_cons_zero, List.set_cons_succ])
      refine ⟨⟨(belowRow hup hz9 _), kafter (unhide HKB) (belowRow hup hz9 _)⟩, ?_⟩
      refine Gen.done (K := (kAnd (kNew WC.heap.size BB9 _) _)) (by kernel_rfl) ⟨⟨(RowIs.same hg9 _), hz9⟩, kafter (unhide HKB) (belowRow hup hz9 _)⟩ (fun WB hKB => ?_) _
      clear okB hup hg9 hz9
      have HK := hide hKB
      have HC := ktells hKB
      (try dsimp only at HC)
      clear hKB
      have hrr := kget (E := eRow) (A := A) (zs := t) (unhide HK) (Below.refl _ _)
      obtain ⟨b, o, rfl, hbb, d0, d1, d2, d3, d4⟩ := rdsRow hrr (unhide HX)
      dsimp only at d0 d1 d2 d3 d4
      have k1 : decide (q1 < p1) = false := decide_eq_false (by omega)
      have k2 : decide (p9 < 0) = false := decide_eq_false (by omega)
      have k3 : decide (V - L ≤ p9) = false := decide_eq_false (by omega)
      have hnl' : (nn : Int) < t.length := by omega
      have hn0' : (0 : Int) ≤ (nn : Int) := by omega
      clear hrr
      by_cases hpos : 0 < p1 ∧ 0 < p5
      · obtain ⟨z1, z2⟩ := hpos
        obtain ⟨g1, g2, g3, g4⟩ := unhide hboth z1 z2
        have e1 : (p2 == p1 * V) = true := beq_iff_eq.2 g1
        have e2 : (p6 == p5 * L + p9) = true := beq_iff_eq.2 g2
        have e3 : (p8 == 0) = true := beq_iff_eq.2 g3
        have e4 : decide (p7 ≤ p5 * Sx) = true := decide_eq_true g4
        clear g1 g2 g3 g4
        go_wp2_with (go_at_call 17; refine know_at (by (repeat (first | exact kk (unhide HK) | apply kkbox | apply kkdrew | apply kkdrewN | apply kkalloc))) (fun hKa => ?_); (try simp only [World.size_alloc] at hKa); (try simp only [World.size_drew] at hKa); refine (awake_any _).mono ?_; rintro e w1 ⟨rfl, hb1⟩; have HK := hide (kafter hKa hb1); clear hKa hb1; have HC := ktells (unhide HK); (try dsimp only at HC))
        all_goals (go_ret; exact ⟨rfl, kup (unhide HK)⟩)
      · rcases unhide helse hpos with g | ⟨g1, g2⟩
        · have e1 : (p1 == 0) = true := beq_iff_eq.2 g
          have z1 : decide (0 < p1) = false := decide_eq_false (by omega)
          clear g hpos
          go_wp2_with (go_at_call 17; refine know_at (by (repeat (first | exact kk (unhide HK) | apply kkbox | apply kkdrew | apply kkdrewN | apply kkalloc))) (fun hKa => ?_); (try simp only [World.size_alloc] at hKa); (try simp only [World.size_drew] at hKa); refine (awake_any _).mono ?_; rintro e w1 ⟨rfl, hb1⟩; have HK := hide (kafter hKa hb1); clear hKa hb1; have HC := ktells (unhide HK); (try dsimp only at HC))
          all_goals (go_ret; exact ⟨rfl, kup (unhide HK)⟩)
        · by_cases z : p1 = 0
          · have e1 : (p1 == 0) = true := beq_iff_eq.2 z
            have z1 : decide (0 < p1) = false := decide_eq_false (by omega)
            clear z hpos g1 g2
            go_wp2_with (go_at_call 17; refine know_at (by (repeat (first | exact kk (unhide HK) | apply kkbox | apply kkdrew | apply kkdrewN | apply kkalloc))) (fun hKa => ?_); (try simp only [World.size_alloc] at hKa); (try simp only [World.size_drew] at hKa); refine (awake_any _).mono ?_; rintro e w1 ⟨rfl, hb1⟩; have HK := hide (kafter hKa hb1); clear hKa hb1; have HC := ktells (unhide HK); (try dsimp only at HC))
            all_goals (go_ret; exact ⟨rfl, kup (unhide HK)⟩)
          · have e1 : (p1 == 0) = false := beq_eq_false_iff_ne.2 z
            have e2 : (p9 == 0) = true := beq_iff_eq.2 g2
            have z1 : decide (0 < p1) = true := decide_eq_true (by omega)
            have z2 : decide (0 < p5) = false := decide_eq_false (by omega)
            have e4 : decide (M * V ≤ H) = true := decide_eq_true g1
            clear z hpos g1 g2
            go_wp2_with (go_at_call 17; refine know_at (by (repeat (first | exact kk (unhide HK) | apply kkbox | apply kkdrew | apply kkdrewN | apply kkalloc))) (fun hKa => ?_); (try simp only [World.size_alloc] at hKa); (try simp only [World.size_drew] at hKa); refine (awake_any _).mono ?_; rintro e w1 ⟨rfl, hb1⟩; have HK := hide (kafter hKa hb1); clear hKa hb1; have HC := ktells (unhide HK); (try dsimp only at HC))
            all_goals (go_ret; exact ⟨rfl, kup (unhide HK)⟩)
end Go.Proofs.Ytenpbiineblcjaa
