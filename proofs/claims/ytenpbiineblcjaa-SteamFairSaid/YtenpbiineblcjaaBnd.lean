/-
  Contracts of the ranges: Range, RightRange, ends; of Bounds, of package steam and of the reference. For every table, level, mass and range.
-/
import Derived.Test.YtenpbiineblcjaaLMore
import Derived.Test.YtenpbiineblcjaaKnowC
namespace Go.Proofs.Ytenpbiineblcjaa
open Go.RowKit Go.Shelf

/-- A range with ends from 0 to a number. -/
def rngB (lo hi most : Int) : Bool := decide (0 ≤ lo) && (decide (lo ≤ hi) && decide (hi ≤ most))
theorem rngB_iff {lo hi most : Int} : rngB lo hi most = true ↔ 0 ≤ lo ∧ lo ≤ hi ∧ hi ≤ most := by simp [rngB]

theorem mkRng_is (a b : Int) (w : World) :
    Calls Try.prog 37 #[.agg #[.int .i64 a, .int .i64 b]] w fun e w' => e = .returned (.agg #[.int .i64 a, .int .i64 b]) ∧ ∃ o1 o2, (w.alloc o1).alloc o2 = w' := by
  go_enter Try.func37, Try.ntmps37
  go_wp2
  refine bodyPost_ret (v := .agg #[.int .i64 a, .int .i64 b]) (by simp [results, Try.results37, go_sem]) rfl ⟨rfl, _, _, rfl⟩

theorem rightRng_is (a b m : Int) (w : World) :
    Calls Try.prog 38 #[.agg #[.int .i64 a, .int .i64 b], .int .i64 m] w fun e w' => e = .returned (.bool (rngB a b m)) ∧ ∃ o, w.alloc o = w' := by
  go_enter Try.func38, Try.ntmps38
  go_wp2
  all_goals
    go_ret
    exact ⟨ret_bool (by unfold rngB; first | (simp [*]; done) | (simp [*]; omega) | (simp; omega)), _, rfl⟩

theorem ends_is (a b m : Int) (w : World) :
    Calls Try.prog 73 #[.agg #[.int .i64 a, .int .i64 b], .int .i64 m] w fun e w' => e = .returned (.bool (rngB a b m)) ∧ ∃ o, w.alloc o = w' := by
  go_enter Try.func73, Try.ntmps73
  go_wp2
  all_goals
    go_ret
    exact ⟨ret_bool (by unfold rngB; first | (simp [*]; done) | (simp [*]; omega) | (simp; omega)), _, rfl⟩

def boundsR (t : List RowT) (level mass hl hh sl sh : Int) : ((Int × Int) × (Int × Int)) × Int :=
  if tabOk t = false then (((0, 0), (0, 0)), 1) else if inB level 0 (t.length - 1) = false then (((0, 0), (0, 0)), 2)
  else if (inB mass 0 1000000 && (rngB hl hh (4000 * mass) && rngB sl sh (10000 * mass))) = false then (((0, 0), (0, 0)), 1)
  else ((((flashOf (rowAt t level) ⟨mass, hl, sl, 0⟩).st.M, (flashOf (rowAt t level) ⟨mass, hh, sh, 0⟩).st.M), ((flashOf (rowAt t level) ⟨mass, hl, sl, 0⟩).scale, (flashOf (rowAt t level) ⟨mass, hh, sh, 0⟩).scale)), 0)


theorem valid_is (A : Option Addr) (c : Nat) (t : List RowT) (b : Bool) (h : tabOk t = b) (hn : t.length ≤ 9223372036854775807) (hc : t.length ≤ c) (w : World) (hr : Rds eRow w w.heap.size A t) :
    Calls Try.prog 56 #[.slice A t.length c] w fun e w' => e = .returned (.bool b) ∧ Below w.heap.size w w' := by
  subst h
  exact valid_any A c t hn hc w hr

theorem at_is (A : Option Addr) (c : Nat) (t : List RowT) (level T P L V S : Int) (h : rowAt t level = ⟨T, P, L, V, S⟩) (h0 : 0 ≤ level) (h1 : level ≤ t.length - 1) (hn : t.length ≤ 9223372036854775807) (w : World) (hr : Rds eRow w w.heap.size A t) :
    Calls Try.prog 60 #[.slice A t.length c, .int .i64 level] w fun e w' => e = .returned (.agg #[.int .i64 T, .int .i64 P, .int .i64 L, .int .i64 V, .int .i64 S]) ∧ ∃ o, w.alloc o = w' := by
  have := at_any A c t level h0 h1 hn w hr
  rw [h] at this
  exact this
theorem of_is (T P L V Sx M H S G : Int) (p : PartT) (h : flashOf ⟨T, P, L, V, Sx⟩ ⟨M, H, S, G⟩ = p) (hf : RowB ⟨T, P, L, V, Sx⟩) (hs : StrB ⟨M, H, S, G⟩) (w : World) :
    Calls Try.prog 61 #[.agg #[.int .i64 T, .int .i64 P, .int .i64 L, .int .i64 V, .int .i64 Sx], .agg #[.int .i64 M, .int .i64 H, .int .i64 S, .int .i64 G]] w fun e w' => e = .returned (vPart p) ∧ Below w.heap.size w w' := by
  subst h
  exact of_any _ _ hf hs w
theorem refFlash_is (T P L V Sx M H S G : Int) (p : PartT) (h : flashOf ⟨T, P, L, V, Sx⟩ ⟨M, H, S, G⟩ = p) (hf : RowB ⟨T, P, L, V, Sx⟩) (hs : StrB ⟨M, H, S, G⟩) (w : World) :
    Calls Try.prog 52 #[.agg #[.int .i64 T, .int .i64 P, .int .i64 L, .int .i64 V, .int .i64 Sx], .agg #[.int .i64 M, .int .i64 H, .int .i64 S, .int .i64 G]] w fun e w' => e = .returned (vPart p) ∧ Below w.heap.size w w' := by
  subst h
  exact refFlash_any _ _ hf hs w


set_option maxRecDepth 100000 in
set_option maxHeartbeats 6400000 in
theorem bounds_any (A : Option Addr) (c : Nat) (t : List RowT) (level mass hl hh sl sh : Int) (hn : t.length ≤ 9223372036854775807) (hc : t.length ≤ c) (w : World) (hr : Rds eRow w w.heap.size A t) :
    Calls Try.prog 36 #[.slice A t.length c, .int .i64 level, .int .i64 mass, .agg #[.int .i64 hl, .int .i64 hh], .agg #[.int .i64 sl, .int .i64 sh]] w fun e w' =>
      e = .returned (.tuple #[.agg #[.int .i64 (boundsR t level mass hl hh sl sh).1.1.1, .int .i64 (boundsR t level mass hl hh sl sh).1.1.2], .agg #[.int .i64 (boundsR t level mass hl hh sl sh).1.2.1, .int .i64 (boundsR t level mass hl hh sl sh).1.2.2], .int .i64 (boundsR t level mass hl hh sl sh).2]) ∧ Below w.heap.size w w' := by
  have HK : Hid (kAnd (kRds eRow A t) (kUp w) w) := hide ⟨hr, Below.refl _ _⟩
  clear hr
  cases ht : tabOk t with
  | false =>
    have HT := hide ht
    have HF := hide (show boundsR t level mass hl hh sl sh = (((0, 0), (0, 0)), 1) by simp [boundsR, ht])
    clear ht
    go_enter Try.func36, Try.ntmps36
    go_upto_region 2 with (go_at_call 56; refine know_at (by (repeat (first | exact kk (unhide HK) | apply kkbox | apply kkdrew | apply kkdrewN | apply kkalloc))) (fun hKa => ?_); (try simp only [World.size_alloc] at hKa); (try simp only [World.size_drew] at hKa); refine (valid_is _ _ _ _ (unhide HT) (by omega) (by omega) _ (by exact kget hKa (Below.refl _ _))).mono ?_; rintro e w1 ⟨rfl, hb1⟩; have HK := hide (kafter hKa hb1); clear hKa hb1; have HC := ktells (unhide HK); (try dsimp only at HC))
    refine know_here (by (repeat (first | exact kk (unhide HK) | apply kkbox | apply kkdrew | apply kkdrewN | apply kkalloc))) ?_
    intro Wz hKz
    obtain ⟨h3, h2, h1, h0, -, hup⟩ := hKz
    obtain ⟨u, rfl, g2, g3, hu⟩ := graft2 (fun W => Below w.heap.size w W) h2 h3 hup
    clear h0 h1 h2 h3 hup HC
    have z2 := g2.lt
    have z3 := g3.lt
    go_region
    all_goals
      go_wp2_with fail
      refine bodyPost_ret (v := .tuple #[.agg #[.int .i64 0, .int .i64 0], .agg #[.int .i64 0, .int .i64 0], .int .i64 1]) (by first | (simp [results, Try.results36, go_sem, g2, g3]; done)) rfl ⟨by rw [unhide HF], ?_⟩
      exact (belowRow (belowRow hu (by omega) _) (by omega) _).drew
  | true =>
    have HT := hide ht
    obtain ⟨t2, t20⟩ := tabOk_len ht
    cases hl' : inB level 0 (t.length - 1) with
    | false =>
      have HF := hide (show boundsR t level mass hl hh sl sh = (((0, 0), (0, 0)), 2) by simp [boundsR, ht, hl'])
      clear ht
      go_enter Try.func36, Try.ntmps36
      go_upto_region 4 with (first | (go_at_call 56; refine know_at (by (repeat (first | exact kk (unhide HK) | apply kkbox | apply kkdrew | apply kkdrewN | apply kkalloc))) (fun hKa => ?_); (try simp only [World.size_alloc] at hKa); (try simp only [World.size_drew] at hKa); refine (valid_is _ _ _ _ (unhide HT) (by omega) (by omega) _ (by exact kget hKa (Below.refl _ _))).mono ?_; rintro e w1 ⟨rfl, hb1⟩; have HK := hide (kafter hKa hb1); clear hKa hb1; have HC := ktells (unhide HK); (try dsimp only at HC)) | (go_at_call 62; refine (has_any _ _ _ _ (by omega) _).mono ?_; rintro e w2 ⟨rfl, rfl⟩))
      refine know_here (by (repeat (first | exact kk (unhide HK) | apply kkbox | apply kkdrew | apply kkdrewN | apply kkalloc))) ?_
      intro Wz hKz
      obtain ⟨h3, h2, h1, h0, -, hup⟩ := hKz
      obtain ⟨u, rfl, g2, g3, hu⟩ := graft2 (fun W => Below w.heap.size w W) h2 h3 hup
      clear h0 h1 h2 h3 hup HC
      have z2 := g2.lt
      have z3 := g3.lt
      go_region
      all_goals
        go_wp2_with fail
        refine bodyPost_ret (v := .tuple #[.agg #[.int .i64 0, .int .i64 0], .agg #[.int .i64 0, .int .i64 0], .int .i64 2]) (by first | (simp [results, Try.results36, go_sem, g2, g3]; done)) rfl ⟨by rw [unhide HF], ?_⟩
        exact (belowRow (belowRow hu (by omega) _) (by omega) _).drew
    | true =>
      cases hm : inB mass 0 1000000 with
      | false =>
        have HF := hide (show boundsR t level mass hl hh sl sh = (((0, 0), (0, 0)), 1) by simp [boundsR, ht, hl', hm])
        clear ht
        go_enter Try.func36, Try.ntmps36
        go_upto_region 6 with (first | (go_at_call 56; refine know_at (by (repeat (first | exact kk (unhide HK) | apply kkbox | apply kkdrew | apply kkdrewN | apply kkalloc))) (fun hKa => ?_); (try simp only [World.size_alloc] at hKa); (try simp only [World.size_drew] at hKa); refine (valid_is _ _ _ _ (unhide HT) (by omega) (by omega) _ (by exact kget hKa (Below.refl _ _))).mono ?_; rintro e w1 ⟨rfl, hb1⟩; have HK := hide (kafter hKa hb1); clear hKa hb1; have HC := ktells (unhide HK); (try dsimp only at HC)) | (go_at_call 62; refine (has_any _ _ _ _ (by omega) _).mono ?_; rintro e w2 ⟨rfl, rfl⟩) | (go_at_call 65; refine (within_any _ _ _ _).mono ?_; rintro e w2 ⟨rfl, rfl⟩) | (go_at_call 73; refine (ends_is _ _ _ _).mono ?_; rintro e w2 ⟨rfl, o1, rfl⟩))
        refine know_here (by (repeat (first | exact kk (unhide HK) | apply kkbox | apply kkdrew | apply kkdrewN | apply kkalloc))) ?_
        intro Wz hKz
        obtain ⟨h3, h2, h1, h0, -, hup⟩ := hKz
        obtain ⟨u, rfl, g2, g3, hu⟩ := graft2 (fun W => Below w.heap.size w W) h2 h3 hup
        clear h0 h1 h2 h3 hup HC
        have z2 := g2.lt
        have z3 := g3.lt
        go_region
        all_goals
          go_wp2_with fail
          refine bodyPost_ret (v := .tuple #[.agg #[.int .i64 0, .int .i64 0], .agg #[.int .i64 0, .int .i64 0], .int .i64 1]) (by first | (simp [results, Try.results36, go_sem, g2, g3]; done)) rfl ⟨by rw [unhide HF], ?_⟩
          exact (belowRow (belowRow hu (by omega) _) (by omega) _).drew
      | true =>
        obtain ⟨m0, m1⟩ := inB_iff.1 hm
        have hw1 : IntKind.i64.wrap (4000 * mass) = 4000 * mass := w64 (by omega) (by omega)
        have hw2 : IntKind.i64.wrap (10000 * mass) = 10000 * mass := w64 (by omega) (by omega)
        cases hh' : rngB hl hh (4000 * mass) with
        | false =>
          have HF := hide (show boundsR t level mass hl hh sl sh = (((0, 0), (0, 0)), 1) by simp [boundsR, ht, hl', hm, hh'])
          clear ht
          go_enter Try.func36, Try.ntmps36
          go_upto_region 6 with (first | (go_at_call 56; refine know_at (by (repeat (first | exact kk (unhide HK) | apply kkbox | apply kkdrew | apply kkdrewN | apply kkalloc))) (fun hKa => ?_); (try simp only [World.size_alloc] at hKa); (try simp only [World.size_drew] at hKa); refine (valid_is _ _ _ _ (unhide HT) (by omega) (by omega) _ (by exact kget hKa (Below.refl _ _))).mono ?_; rintro e w1 ⟨rfl, hb1⟩; have HK := hide (kafter hKa hb1); clear hKa hb1; have HC := ktells (unhide HK); (try dsimp only at HC)) | (go_at_call 62; refine (has_any _ _ _ _ (by omega) _).mono ?_; rintro e w2 ⟨rfl, rfl⟩) | (go_at_call 65; refine (within_any _ _ _ _).mono ?_; rintro e w2 ⟨rfl, rfl⟩) | (go_at_call 73; refine (ends_is _ _ _ _).mono ?_; rintro e w2 ⟨rfl, o1, rfl⟩))
          refine know_here (by (repeat (first | exact kk (unhide HK) | apply kkbox | apply kkdrew | apply kkdrewN | apply kkalloc))) ?_
          intro Wz hKz
          obtain ⟨h3, h2, h1, h0, -, hup⟩ := hKz
          obtain ⟨u, rfl, g2, g3, hu⟩ := graft2 (fun W => Below w.heap.size w W) h2 h3 hup
          clear h0 h1 h2 h3 hup HC
          have z2 := g2.lt
          have z3 := g3.lt
          go_region
          all_goals
            go_wp2_with fail
            refine bodyPost_ret (v := .tuple #[.agg #[.int .i64 0, .int .i64 0], .agg #[.int .i64 0, .int .i64 0], .int .i64 1]) (by first | (simp [results, Try.results36, go_sem, g2, g3]; done)) rfl ⟨by rw [unhide HF], ?_⟩
            exact (belowRow (belowRow hu (by omega) _) (by omega) _).drew
        | true =>
          cases hs' : rngB sl sh (10000 * mass) with
          | false =>
            have HF := hide (show boundsR t level mass hl hh sl sh = (((0, 0), (0, 0)), 1) by simp [boundsR, ht, hl', hm, hh', hs'])
            clear ht
            go_enter Try.func36, Try.ntmps36
            go_upto_region 6 with (first | (go_at_call 56; refine know_at (by (repeat (first | exact kk (unhide HK) | apply kkbox | apply kkdrew | apply kkdrewN | apply kkalloc))) (fun hKa => ?_); (try simp only [World.size_alloc] at hKa); (try simp only [World.size_drew] at hKa); refine (valid_is _ _ _ _ (unhide HT) (by omega) (by omega) _ (by exact kget hKa (Below.refl _ _))).mono ?_; rintro e w1 ⟨rfl, hb1⟩; have HK := hide (kafter hKa hb1); clear hKa hb1; have HC := ktells (unhide HK); (try dsimp only at HC)) | (go_at_call 62; refine (has_any _ _ _ _ (by omega) _).mono ?_; rintro e w2 ⟨rfl, rfl⟩) | (go_at_call 65; refine (within_any _ _ _ _).mono ?_; rintro e w2 ⟨rfl, rfl⟩) | (go_at_call 73; refine (ends_is _ _ _ _).mono ?_; rintro e w2 ⟨rfl, o1, rfl⟩))
            refine know_here (by (repeat (first | exact kk (unhide HK) | apply kkbox | apply kkdrew | apply kkdrewN | apply kkalloc))) ?_
            intro Wz hKz
            obtain ⟨h3, h2, h1, h0, -, hup⟩ := hKz
            obtain ⟨u, rfl, g2, g3, hu⟩ := graft2 (fun W => Below w.heap.size w W) h2 h3 hup
            clear h0 h1 h2 h3 hup HC
            have z2 := g2.lt
            have z3 := g3.lt
            go_region
            all_goals
              go_wp2_with fail
              refine bodyPost_ret (v := .tuple #[.agg #[.int .i64 0, .int .i64 0], .agg #[.int .i64 0, .int .i64 0], .int .i64 1]) (by first | (simp [results, Try.results36, go_sem, g2, g3]; done)) rfl ⟨by rw [unhide HF], ?_⟩
              exact (belowRow (belowRow hu (by omega) _) (by omega) _).drew
          | true =>
            obtain ⟨n1, n2, n3⟩ := rngB_iff.1 hh'
            obtain ⟨n4, n5, n6⟩ := rngB_iff.1 hs'
            obtain ⟨l0, l1⟩ := inB_iff.1 hl'
            have hrow := tabOk_row ht (rowAt_get l0 l1)
            have sb1 : StrB ⟨mass, hl, sl, 0⟩ := ⟨m0, m1, n1, by dsimp only; omega, n4, by dsimp only; omega, Int.le_refl 0, (show (0 : Int) ≤ 1000000000 by decide)⟩
            have sb2 : StrB ⟨mass, hh, sh, 0⟩ := ⟨m0, m1, by dsimp only; omega, n3, by dsimp only; omega, n6, Int.le_refl 0, (show (0 : Int) ≤ 1000000000 by decide)⟩
            have HF := hide (show boundsR t level mass hl hh sl sh = ((((flashOf (rowAt t level) ⟨mass, hl, sl, 0⟩).st.M, (flashOf (rowAt t level) ⟨mass, hh, sh, 0⟩).st.M), ((flashOf (rowAt t level) ⟨mass, hl, sl, 0⟩).scale, (flashOf (rowAt t level) ⟨mass, hh, sh, 0⟩).scale)), 0) by simp [boundsR, ht, hl', hm, hh', hs'])
            obtain ⟨r, hr⟩ : ∃ r, rowAt t level = r := ⟨_, rfl⟩
            rw [hr] at hrow HF
            have HR := hide hr
            obtain ⟨T, P, L, V, Sx⟩ := r
            obtain ⟨p, hp⟩ : ∃ p, flashOf ⟨T, P, L, V, Sx⟩ ⟨mass, hl, sl, 0⟩ = p := ⟨_, rfl⟩
            obtain ⟨q, hq⟩ : ∃ q, flashOf ⟨T, P, L, V, Sx⟩ ⟨mass, hh, sh, 0⟩ = q := ⟨_, rfl⟩
            rw [hp, hq] at HF
            have HP := hide hp
            have HQ := hide hq
            have HB := hide (And.intro hrow (And.intro sb1 sb2))
            clear ht hr hp hq hrow sb1 sb2
            obtain ⟨⟨p1, p2, p3, p4⟩, ⟨p5, p6, p7, p8⟩, p9, pz⟩ := p
            obtain ⟨⟨q1, q2, q3, q4⟩, ⟨q5, q6, q7, q8⟩, q9, qz⟩ := q
            dsimp only at HF
            go_enter Try.func36, Try.ntmps36
            go_upto_region 7 with (first | (go_at_call 56; refine know_at (by (repeat (first | exact kk (unhide HK) | apply kkbox | apply kkdrew | apply kkdrewN | apply kkalloc))) (fun hKa => ?_); (try simp only [World.size_alloc] at hKa); (try simp only [World.size_drew] at hKa); refine (valid_is _ _ _ _ (unhide HT) (by omega) (by omega) _ (by exact kget hKa (Below.refl _ _))).mono ?_; rintro e w1 ⟨rfl, hb1⟩; have HK := hide (kafter hKa hb1); clear hKa hb1; have HC := ktells (unhide HK); (try dsimp only at HC)) | (go_at_call 62; refine (has_any _ _ _ _ (by omega) _).mono ?_; rintro e w2 ⟨rfl, rfl⟩) | (go_at_call 65; refine (within_any _ _ _ _).mono ?_; rintro e w2 ⟨rfl, rfl⟩) | (go_at_call 73; refine (ends_is _ _ _ _).mono ?_; rintro e w2 ⟨rfl, o1, rfl⟩))
            refine know_here (by (repeat (first | exact kk (unhide HK) | apply kkbox | apply kkdrew | apply kkdrewN | apply kkalloc))) ?_
            intro V7 hKA
            (try simp only [World.size_alloc] at hKA)
            (try simp only [World.size_drew] at hKA)
            have HKA := hide hKA
            have HCA := ktells hKA
            (try dsimp only at HCA)
            refine Gen.begin_ [⟨10, 13, #[.int .i64 0, .int .i64 0, .int .i64 0, .int .i64 0, .int .i64 0, .int .i64 0, .int .i64 0, .int .i64 0, .int .i64 0, .int .i64 0], 44⟩] 11 (by kernel_rfl) hKA (by rfl) ⟨fun x hx => by (simp only [List.mem_cons, List.not_mem_nil, or_false] at hx; rcases hx with rfl; all_goals exact ⟨_, by rfl, by rfl, by rfl, fun _ _ => by kernel_rfl⟩), by kernel_rfl, fun _ _ _ _ _ => Iff.rfl⟩ (fun okA => ?_)
            clear hKA
            refine Gen.take 0 (v := ?vA0) okA (by simp only [List.getElem?_toArray, List.getElem?_cons_zero]; rfl) (by kernel_rfl) (by kernel_rfl) (by kernel_rfl) (Or.inl ⟨by rfl, ?hA0⟩) ?_
            case hA0 => (intro wg hSw; have hc := ktells hSw; (try dsimp only at hc); go_simp; try with_reducible rfl)
            (try simp only [Act.put, List.setIfInBounds_toArray, List.set_cons_zero, List.set_cons_succ])
            refine Gen.take 1 (v := ?vA1) okA (by simp only [List.getElem?_toArray, List.getElem?_cons_zero, List.getElem?_cons_succ]; rfl) (by kernel_rfl) (by kernel_rfl) (by kernel_rfl) (Or.inl ⟨by rfl, ?hA1⟩) ?_
            case hA1 => (intro wg hSw; have hc := ktells hSw; (try dsimp only at hc); go_simp; try with_reducible rfl)
            (try simp only [Act.put, List.setIfInBounds_toArray, List.set_cons_zero, List.set_cons_succ])
            refine Gen.take 3 (v := ?vA3) okA (by simp only [List.getElem?_toArray, List.getElem?_cons_zero, List.getElem?_cons_succ]; rfl) (by kernel_rfl) (by kernel_rfl) (by kernel_rfl) (Or.inl ⟨by rfl, ?hA3⟩) ?_
            case hA3 => (intro wg hSw; have hc := ktells hSw; (try dsimp only at hc); go_simp; try with_reducible rfl)
            (try simp only [Act.put, List.setIfInBounds_toArray, List.set_cons_zero, List.set_cons_succ])
            refine Gen.take 4 (v := ?vA4) okA (by simp only [List.getElem?_toArray, List.getElem?_cons_zero, List.getElem?_cons_succ]; rfl) (by kernel_rfl) (by kernel_rfl) (by kernel_rfl) (Or.inl ⟨by rfl, ?hA4⟩) ?_
            case hA4 => (intro wg hSw; have hc := ktells hSw; (try dsimp only at hc); go_simp; try with_reducible rfl)
            (try simp only [Act.put, List.setIfInBounds_toArray, List.set_cons_zero, List.set_cons_succ])
            refine Gen.take 5 (v := ?vA5) okA (by simp only [List.getElem?_toArray, List.getElem?_cons_zero, List.getElem?_cons_succ]; rfl) (by kernel_rfl) (by kernel_rfl) (by kernel_rfl) (Or.inl ⟨by rfl, ?hA5⟩) ?_
            case hA5 => (intro wg hSw; have hc := ktells hSw; (try dsimp only at hc); go_simp; try with_reducible rfl)
            (try simp only [Act.put, List.setIfInBounds_toArray, List.set_cons_zero, List.set_cons_succ])
            refine Gen.take 6 (v := ?vA6) okA (by simp only [List.getElem?_toArray, List.getElem?_cons_zero, List.getElem?_cons_succ]; rfl) (by kernel_rfl) (by kernel_rfl) (by kernel_rfl) (Or.inl ⟨by rfl, ?hA6⟩) ?_
            case hA6 => (intro wg hSw; have hc := ktells hSw; (try dsimp only at hc); go_simp; try with_reducible rfl)
            (try simp only [Act.put, List.setIfInBounds_toArray, List.set_cons_zero, List.set_cons_succ])
            refine Gen.take 7 (v := ?vA7) okA (by simp only [List.getElem?_toArray, List.getElem?_cons_zero, List.getElem?_cons_succ]; rfl) (by kernel_rfl) (by kernel_rfl) (by kernel_rfl) (Or.inl ⟨by rfl, ?hA7⟩) ?_
            case hA7 => (intro wg hSw; have hc := ktells hSw; (try dsimp only at hc); go_simp; try with_reducible rfl)
            (try simp only [Act.put, List.setIfInBounds_toArray, List.set_cons_zero, List.set_cons_succ])
            refine Gen.take 8 (v := ?vA8) okA (by simp only [List.getElem?_toArray, List.getElem?_cons_zero, List.getElem?_cons_succ]; rfl) (by kernel_rfl) (by kernel_rfl) (by kernel_rfl) (Or.inl ⟨by rfl, ?hA8⟩) ?_
            case hA8 => (intro wg hSw; have hc := ktells hSw; (try dsimp only at hc); go_simp; try with_reducible rfl)
            (try simp only [Act.put, List.setIfInBounds_toArray, List.set_cons_zero, List.set_cons_succ])
            refine Gen.step inferInstance Gen.size 2 okA (by kernel_rfl) inferInstance (by simp) (fun wg hKg hSg => wpOp_of (by simp only [List.getElem?_toArray, List.getElem?_cons_zero, List.getElem?_cons_succ]; rfl) (by rfl) ?_)
            go_simp
            refine (at_is _ _ _ _ _ _ _ _ _ (unhide HR) l0 l1 (by omega) _ (by exact kget hKg (Below.refl _ _))).mono ?_
            rintro e wh ⟨rfl, o1, rfl⟩
            (try dsimp only)
            refine Gen.stay rfl hKg (by (repeat (first | exact Below.refl _ _ | refine Below.allocs ?_ _ | refine Below.drew ?_ | refine Below.drewNs ?_ _))) ?_
            clear hKg hSg
            refine Gen.step inferInstance Gen.size 9 okA (by kernel_rfl) inferInstance (by simp) (fun wg hKg hSg => wpOp_of (by simp only [List.getElem?_toArray, List.getElem?_cons_zero, List.getElem?_cons_succ]; rfl) (by rfl) ?_)
            go_simp
            refine (of_is _ _ _ _ _ _ _ _ _ _ (unhide HP) (unhide HB).1 (unhide HB).2.1 _).mono ?_
            rintro e wh ⟨rfl, hb1⟩
            (try dsimp only)
            refine Gen.stay rfl hKg hb1 ?_
            clear hKg hSg
            clear hb1
            refine Gen.finish inferInstance Gen.size okA (by kernel_rfl) inferInstance (by simp) ?_
            simp only [Gen.Fin, NewVar.put]
            (try simp only [Act.put, List.setIfInBounds_toArray, List.set_cons_zero, List.set_cons_succ])
            intro BA10 hnA10 wf hKf hSf
            obtain ⟨wu, rfl, hg10, hup⟩ := graft1 (fun W => Below V7.heap.size V7 W) hKf.1.1 hSf.1
            have hz10 := hKf.1.2
            clear hKf hSf
            refine Gen.one 11 (by kernel_rfl) (wpOp_of (by simp only [List.getElem?_toArray, List.getElem?_cons_zero, List.getElem?_cons_succ]; rfl) (by rfl) ?_)
            go_simp
            (try simp only [Act.put, List.setIfInBounds_toArray, List.set_cons_zero, List.set_cons_succ])
            refine ⟨⟨(belowRow hup hz10 _), kafter (unhide HKA) (belowRow hup hz10 _)⟩, ?_⟩
            refine Gen.done (K := (kAnd (kNew V7.heap.size BA10 _) _)) (by kernel_rfl) ⟨⟨(RowIs.same hg10 _), hz10⟩, kafter (unhide HKA) (belowRow hup hz10 _)⟩ (fun WA hKA => ?_) _
            clear okA hup hg10 hz10
            have HK := hide hKA
            have HC := ktells hKA
            (try dsimp only at HC)
            clear hKA
            go_wp2_with fail
            refine know_here (by (repeat (first | exact kk (unhide HK) | apply kkbox | apply kkdrew | apply kkdrewN | apply kkalloc))) ?_
            intro V8 hKB
            (try simp only [World.size_alloc] at hKB)
            (try simp only [World.size_drew] at hKB)
            have HKB := hide hKB
            have HCB := ktells hKB
            (try dsimp only at HCB)
            refine Gen.begin_ [⟨10, 14, #[.int .i64 0, .int .i64 0, .int .i64 0, .int .i64 0, .int .i64 0, .int .i64 0, .int .i64 0, .int .i64 0, .int .i64 0, .int .i64 0], 44⟩] 11 (by kernel_rfl) hKB (by rfl) ⟨fun x hx => by (simp only [List.mem_cons, List.not_mem_nil, or_false] at hx; rcases hx with rfl; all_goals exact ⟨_, by rfl, by rfl, by rfl, fun _ _ => by kernel_rfl⟩), by kernel_rfl, fun _ _ _ _ _ => Iff.rfl⟩ (fun okB => ?_)
            clear hKB
            refine Gen.take 0 (v := ?vB0) okB (by simp only [List.getElem?_toArray, List.getElem?_cons_zero]; rfl) (by kernel_rfl) (by kernel_rfl) (by kernel_rfl) (Or.inl ⟨by rfl, ?hB0⟩) ?_
            case hB0 => (intro wg hSw; have hc := ktells hSw; (try dsimp only at hc); go_simp; try with_reducible rfl)
            (try simp only [Act.put, List.setIfInBounds_toArray, List.set_cons_zero, List.set_cons_succ])
            refine Gen.take 1 (v := ?vB1) okB (by simp only [List.getElem?_toArray, List.getElem?_cons_zero, List.getElem?_cons_succ]; rfl) (by kernel_rfl) (by kernel_rfl) (by kernel_rfl) (Or.inl ⟨by rfl, ?hB1⟩) ?_
            case hB1 => (intro wg hSw; have hc := ktells hSw; (try dsimp only at hc); go_simp; try with_reducible rfl)
            (try simp only [Act.put, List.setIfInBounds_toArray, List.set_cons_zero, List.set_cons_succ])
            refine Gen.take 3 (v := ?vB3) okB (by simp only [List.getElem?_toArray, List.getElem?_cons_zero, List.getElem?_cons_succ]; rfl) (by kernel_rfl) (by kernel_rfl) (by kernel_rfl) (Or.inl ⟨by rfl, ?hB3⟩) ?_
            case hB3 => (intro wg hSw; have hc := ktells hSw; (try dsimp only at hc); go_simp; try with_reducible rfl)
            (try simp only [Act.put, List.setIfInBounds_toArray, List.set_cons_zero, List.set_cons_succ])
            refine Gen.take 4 (v := ?vB4) okB (by simp only [List.getElem?_toArray, List.getElem?_cons_zero, List.getElem?_cons_succ]; rfl) (by kernel_rfl) (by kernel_rfl) (by kernel_rfl) (Or.inl ⟨by rfl, ?hB4⟩) ?_
            case hB4 => (intro wg hSw; have hc := ktells hSw; (try dsimp only at hc); go_simp; try with_reducible rfl)
            (try simp only [Act.put, List.setIfInBounds_toArray, List.set_cons_zero, List.set_cons_succ])
            refine Gen.take 5 (v := ?vB5) okB (by simp only [List.getElem?_toArray, List.getElem?_cons_zero, List.getElem?_cons_succ]; rfl) (by kernel_rfl) (by kernel_rfl) (by kernel_rfl) (Or.inl ⟨by rfl, ?hB5⟩) ?_
            case hB5 => (intro wg hSw; have hc := ktells hSw; (try dsimp only at hc); go_simp; try with_reducible rfl)
            (try simp only [Act.put, List.setIfInBounds_toArray, List.set_cons_zero, List.set_cons_succ])
            refine Gen.take 6 (v := ?vB6) okB (by simp only [List.getElem?_toArray, List.getElem?_cons_zero, List.getElem?_cons_succ]; rfl) (by kernel_rfl) (by kernel_rfl) (by kernel_rfl) (Or.inl ⟨by rfl, ?hB6⟩) ?_
            case hB6 => (intro wg hSw; have hc := ktells hSw; (try dsimp only at hc); go_simp; try with_reducible rfl)
            (try simp only [Act.put, List.setIfInBounds_toArray, List.set_cons_zero, List.set_cons_succ])
            refine Gen.take 7 (v := ?vB7) okB (by simp only [List.getElem?_toArray, List.getElem?_cons_zero, List.getElem?_cons_succ]; rfl) (by kernel_rfl) (by kernel_rfl) (by kernel_rfl) (Or.inl ⟨by rfl, ?hB7⟩) ?_
            case hB7 => (intro wg hSw; have hc := ktells hSw; (try dsimp only at hc); go_simp; try with_reducible rfl)
            (try simp only [Act.put, List.setIfInBounds_toArray, List.set_cons_zero, List.set_cons_succ])
            refine Gen.take 8 (v := ?vB8) okB (by simp only [List.getElem?_toArray, List.getElem?_cons_zero, List.getElem?_cons_succ]; rfl) (by kernel_rfl) (by kernel_rfl) (by kernel_rfl) (Or.inl ⟨by rfl, ?hB8⟩) ?_
            case hB8 => (intro wg hSw; have hc := ktells hSw; (try dsimp only at hc); go_simp; try with_reducible rfl)
            (try simp only [Act.put, List.setIfInBounds_toArray, List.set_cons_zero, List.set_cons_succ])
            refine Gen.step inferInstance Gen.size 2 okB (by kernel_rfl) inferInstance (by simp) (fun wg hKg hSg => wpOp_of (by simp only [List.getElem?_toArray, List.getElem?_cons_zero, List.getElem?_cons_succ]; rfl) (by rfl) ?_)
            go_simp
            refine (at_is _ _ _ _ _ _ _ _ _ (unhide HR) l0 l1 (by omega) _ (by exact kget hKg (Below.refl _ _))).mono ?_
            rintro e wh ⟨rfl, o1, rfl⟩
            (try dsimp only)
            refine Gen.stay rfl hKg (by (repeat (first | exact Below.refl _ _ | refine Below.allocs ?_ _ | refine Below.drew ?_ | refine Below.drewNs ?_ _))) ?_
            clear hKg hSg
            refine Gen.step inferInstance Gen.size 9 okB (by kernel_rfl) inferInstance (by simp) (fun wg hKg hSg => wpOp_of (by simp only [List.getElem?_toArray, List.getElem?_cons_zero, List.getElem?_cons_succ]; rfl) (by rfl) ?_)
            go_simp
            refine (of_is _ _ _ _ _ _ _ _ _ _ (unhide HQ) (unhide HB).1 (unhide HB).2.2 _).mono ?_
            rintro e wh ⟨rfl, hb1⟩
            (try dsimp only)
            refine Gen.stay rfl hKg hb1 ?_
            clear hKg hSg
            clear hb1
            refine Gen.finish inferInstance Gen.size okB (by kernel_rfl) inferInstance (by simp) ?_
            simp only [Gen.Fin, NewVar.put]
            (try simp only [Act.put, List.setIfInBounds_toArray, List.set_cons_zero, List.set_cons_succ])
            intro BB10 hnB10 wf hKf hSf
            obtain ⟨wu, rfl, hg10, hup⟩ := graft1 (fun W => Below V8.heap.size V8 W) hKf.1.1 hSf.1
            have hz10 := hKf.1.2
            clear hKf hSf
            refine Gen.one 11 (by kernel_rfl) (wpOp_of (by simp only [List.getElem?_toArray, List.getElem?_cons_zero, List.getElem?_cons_succ]; rfl) (by rfl) ?_)
            go_simp
            (try simp only [Act.put, List.setIfInBounds_toArray, List.set_cons_zero, List.set_cons_succ])
            refine ⟨⟨(belowRow hup hz10 _), kafter (unhide HKB) (belowRow hup hz10 _)⟩, ?_⟩
            refine Gen.done (K := (kAnd (kNew V8.heap.size BB10 _) _)) (by kernel_rfl) ⟨⟨(RowIs.same hg10 _), hz10⟩, kafter (unhide HKB) (belowRow hup hz10 _)⟩ (fun WB hKB => ?_) _
            clear okB hup hg10 hz10
            have HK := hide hKB
            have HC := ktells hKB
            (try dsimp only at HC)
            clear hKB
            go_wp2_with fail
            obtain ⟨hb, ha, h3, h2, h1, h0, -, hup⟩ := unhide HK
            have y2 : w.heap.size + 1 + 1 + 1 < V7.heap.size := by omega
            have y3 : BA10 < V8.heap.size := by omega
            have ya := ha.2
            have yb := hb.2
            obtain ⟨u, rfl, ga, gb, g2, g3, hu⟩ := graft4 (fun W => Below w.heap.size w W) ha.1 hb.1 h2 h3 hup
            clear HC HCA HCB h0 h1 h2 h3 hup ha hb HK HKA HKB
            have z2 := g2.lt
            have z3 := g3.lt
            have na2 : BA10 ≠ w.heap.size + 1 + 1 := by omega
            have na3 : BA10 ≠ w.heap.size + 1 + 1 + 1 := by omega
            have nb2 : BB10 ≠ w.heap.size + 1 + 1 := by omega
            have nb3 : BB10 ≠ w.heap.size + 1 + 1 + 1 := by omega
            have nab : BA10 ≠ BB10 := by omega
            have na2' : w.heap.size + 1 + 1 ≠ BA10 := by omega
            have na3' : w.heap.size + 1 + 1 + 1 ≠ BA10 := by omega
            have nb2' : w.heap.size + 1 + 1 ≠ BB10 := by omega
            have nb3' : w.heap.size + 1 + 1 + 1 ≠ BB10 := by omega
            have nab' : BB10 ≠ BA10 := by omega
            go_region
            all_goals
              go_wp2_with fail
              refine bodyPost_ret (v := .tuple #[.agg #[.int .i64 p1, .int .i64 q1], .agg #[.int .i64 pz, .int .i64 qz], .int .i64 0]) (by first | (simp [results, Try.results36, go_sem, g2, g3]; done)) rfl ⟨by rw [unhide HF], ?_⟩
              exact (belowRow (belowRow (belowRow (belowRow hu (by omega) _) (by omega) _) (by omega) _) (by omega) _).drew
end Go.Proofs.Ytenpbiineblcjaa
