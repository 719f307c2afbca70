/-
  The walk of SteamBounds: it returns true for every table, level, mass and ranges, and leaves what lay as it lay.
-/
import Derived.Test.YtenpbiineblcjaaBndR
namespace Go.Proofs.Ytenpbiineblcjaa
open Go.RowKit Go.Shelf

theorem bounds_is (A : Option Addr) (c : Nat) (t : List RowT) (level mass hl hh sl sh a1 a2 b1 b2 er : Int) (h : boundsR t level mass hl hh sl sh = (((a1, a2), (b1, b2)), er)) (hn : t.length ≤ 9223372036854775807) (hc : t.length ≤ c) (w : World) (hr : Rds eRow w w.heap.size A t) :
    Calls Try.prog 36 #[.slice A t.length c, .int .i64 level, .int .i64 mass, .agg #[.int .i64 hl, .int .i64 hh], .agg #[.int .i64 sl, .int .i64 sh]] w fun e w' =>
      e = .returned (.tuple #[.agg #[.int .i64 a1, .int .i64 a2], .agg #[.int .i64 b1, .int .i64 b2], .int .i64 er]) ∧ Below w.heap.size w w' := by
  have := bounds_any A c t level mass hl hh sl sh hn hc w hr
  rw [h] at this
  exact this


set_option maxRecDepth 100000 in
set_option maxHeartbeats 12800000 in
theorem lawBounds_any (A : Option Addr) (c : Nat) (t : List RowT) (level mass hl hh sl sh : Int) (hn : t.length ≤ 9223372036854775807) (w : World) (hr : Rds eRow w w.heap.size A t) :
    Calls Try.prog 8 #[.slice A t.length c, .int .i64 level, .int .i64 mass, .agg #[.int .i64 hl, .int .i64 hh], .agg #[.int .i64 sl, .int .i64 sh]] w fun e w' => e = .returned (.bool true) ∧ Below w.heap.size w w' := by
  have HK : Hid (kAnd (kRds eRow A t) (kUp w) w) := hide ⟨hr, Below.refl _ _⟩
  clear hr
  by_cases t30 : 30 < t.length
  · go_enter Try.func8, Try.ntmps8
    go_wp2_with (go_at_call 17; refine know_at (by (repeat (first | exact kk (unhide HK) | apply kkbox | apply kkdrew | apply kkdrewN | apply kkalloc))) (fun hKa => ?_); (try simp only [World.size_alloc] at hKa); (try simp only [World.size_drew] at hKa); refine (awake_any _).mono ?_; rintro e w1 ⟨rfl, hb1⟩; have HK := hide (kafter hKa hb1); clear hKa hb1; have HC := ktells (unhide HK); (try dsimp only at HC))
    all_goals (go_ret; exact ⟨rfl, kup (unhide HK)⟩)
  cases ht : tabOk t with
  | false =>
    have HT := hide ht
    have HBD := hide (show boundsR t level mass hl hh sl sh = (((0, 0), (0, 0)), 1) by simp [boundsR, ht])
    clear ht
    go_enter Try.func8, Try.ntmps8
    go_upto_region 3 with (go_at_call 17; refine know_at (by (repeat (first | exact kk (unhide HK) | apply kkbox | apply kkdrew | apply kkdrewN | apply kkalloc))) (fun hKa => ?_); (try simp only [World.size_alloc] at hKa); (try simp only [World.size_drew] at hKa); refine (awake_any _).mono ?_; rintro e w1 ⟨rfl, hb1⟩; have HK := hide (kafter hKa hb1); clear hKa hb1; have HC := ktells (unhide HK); (try dsimp only at HC))
    refine know_here (by (repeat (first | exact kk (unhide HK) | apply kkbox | apply kkdrew | apply kkdrewN | apply kkalloc))) ?_
    intro V3 hKA
    (try simp only [World.size_alloc] at hKA)
    (try simp only [World.size_drew] at hKA)
    have HKA := hide hKA
    have HCA := ktells hKA
    (try dsimp only at HCA)
    refine Gen.begin_ [⟨13, 11, #[.int .i64 0, .int .i64 0], 71⟩, ⟨14, 12, #[.int .i64 0, .int .i64 0], 71⟩] 16 (by kernel_rfl) hKA (by rfl) ⟨fun x hx => by (simp only [List.mem_cons, List.not_mem_nil, or_false] at hx; rcases hx with rfl | rfl; all_goals exact ⟨_, by rfl, by rfl, by rfl, fun _ _ => by kernel_rfl⟩), by kernel_rfl, fun _ _ _ _ _ => Iff.rfl⟩ (fun okA => ?_)
    clear hKA
    refine Gen.take 0 (v := ?vv1) okA (by simp only [List.getElem?_toArray, List.getElem?_cons_zero]; rfl) (by kernel_rfl) (by kernel_rfl) (by kernel_rfl) (Or.inl ⟨by rfl, ?hh1⟩) ?_
    case hh1 => (intro wg hSw; have hc := ktells hSw; (try dsimp only at hc); go_simp; try with_reducible rfl)
    (try simp only [Act.put, List.setIfInBounds_toArray, List.set_cons_zero, List.set_cons_succ])
    refine Gen.take 2 (v := ?vv2) okA (by simp only [List.getElem?_toArray, List.getElem?_cons_zero, List.getElem?_cons_succ]; rfl) (by kernel_rfl) (by kernel_rfl) (by kernel_rfl) (Or.inl ⟨by rfl, ?hh2⟩) ?_
    case hh2 => (intro wg hSw; have hc := ktells hSw; (try dsimp only at hc); go_simp; try with_reducible rfl)
    (try simp only [Act.put, List.setIfInBounds_toArray, List.set_cons_zero, List.set_cons_succ])
    refine Gen.take 3 (v := ?vv3) okA (by simp only [List.getElem?_toArray, List.getElem?_cons_zero, List.getElem?_cons_succ]; rfl) (by kernel_rfl) (by kernel_rfl) (by kernel_rfl) (Or.inl ⟨by rfl, ?hh3⟩) ?_
    case hh3 => (intro wg hSw; have hc := ktells hSw; (try dsimp only at hc); go_simp; try with_reducible rfl)
    (try simp only [Act.put, List.setIfInBounds_toArray, List.set_cons_zero, List.set_cons_succ])
    refine Gen.take 4 (v := ?vv4) okA (by simp only [List.getElem?_toArray, List.getElem?_cons_zero, List.getElem?_cons_succ]; rfl) (by kernel_rfl) (by kernel_rfl) (by kernel_rfl) (Or.inl ⟨by rfl, ?hh4⟩) ?_
    case hh4 => (intro wg hSw; have hc := ktells hSw; (try dsimp only at hc); go_simp; try with_reducible rfl)
    (try simp only [Act.put, List.setIfInBounds_toArray, List.set_cons_zero, List.set_cons_succ])
    refine Gen.take 6 (v := ?vv5) okA (by simp only [List.getElem?_toArray, List.getElem?_cons_zero, List.getElem?_cons_succ]; rfl) (by kernel_rfl) (by kernel_rfl) (by kernel_rfl) (Or.inl ⟨by rfl, ?hh5⟩) ?_
    case hh5 => (intro wg hSw; have hc := ktells hSw; (try dsimp only at hc); go_simp; try with_reducible rfl)
    (try simp only [Act.put, List.setIfInBounds_toArray, List.set_cons_zero, List.set_cons_succ])
    refine Gen.step inferInstance Gen.size 1 okA (by kernel_rfl) inferInstance (by simp) (fun wg hKg hSg => wpOp_of (by simp only [List.getElem?_toArray, List.getElem?_cons_zero, List.getElem?_cons_succ]; rfl) (by rfl) ?_)
    go_simp
    refine (mkTable_any _ _ _ (by omega) _ (by exact kget hKg (Below.refl _ _))).mono ?_
    rintro e wh ⟨v1, rfl, ⟨A1, c1, rfl, hc1, hr1, -⟩, hb1⟩
    (try dsimp only)
    refine Gen.more (F := kRds eRow A1 t) rfl hKg hb1 hr1 ?_
    clear hKg hSg
    clear hb1
    clear hr1
    refine Gen.step inferInstance Gen.size 5 okA (by kernel_rfl) inferInstance (by simp) (fun wg hKg hSg => wpOp_of (by simp only [List.getElem?_toArray, List.getElem?_cons_zero, List.getElem?_cons_succ]; rfl) (by rfl) ?_)
    go_simp
    refine (mkRng_is _ _ _).mono ?_
    rintro e wh ⟨rfl, o1, o2, rfl⟩
    (try dsimp only)
    refine Gen.stay rfl hKg (by (repeat (first | exact Below.refl _ _ | refine Below.allocs ?_ _ | refine Below.drew ?_ | refine Below.drewNs ?_ _))) ?_
    clear hKg hSg
    refine Gen.step inferInstance Gen.size 7 okA (by kernel_rfl) inferInstance (by simp) (fun wg hKg hSg => wpOp_of (by simp only [List.getElem?_toArray, List.getElem?_cons_zero, List.getElem?_cons_succ]; rfl) (by rfl) ?_)
    go_simp
    refine (mkRng_is _ _ _).mono ?_
    rintro e wh ⟨rfl, o1, o2, rfl⟩
    (try dsimp only)
    refine Gen.stay rfl hKg (by (repeat (first | exact Below.refl _ _ | refine Below.allocs ?_ _ | refine Below.drew ?_ | refine Below.drewNs ?_ _))) ?_
    clear hKg hSg
    refine Gen.step inferInstance Gen.size 8 okA (by kernel_rfl) inferInstance (by simp) (fun wg hKg hSg => wpOp_of (by simp only [List.getElem?_toArray, List.getElem?_cons_zero, List.getElem?_cons_succ]; rfl) (by rfl) ?_)
    go_simp
    refine (bounds_is _ _ _ _ _ _ _ _ _ _ _ _ _ _ (unhide HBD) (by omega) (by omega) _ (by exact kget hKg (Below.refl _ _))).mono ?_
    rintro e wh ⟨rfl, hb1⟩
    (try dsimp only)
    refine Gen.stay rfl hKg hb1 ?_
    clear hKg hSg
    clear hb1
    refine Gen.take 9 (v := ?vv6) okA (by simp only [List.getElem?_toArray, List.getElem?_cons_zero, List.getElem?_cons_succ]; rfl) (by kernel_rfl) (by kernel_rfl) (by kernel_rfl) (Or.inl ⟨by rfl, ?hh6⟩) ?_
    case hh6 => (intro wg hSw; have hc := ktells hSw; (try dsimp only at hc); go_simp; try with_reducible rfl)
    (try simp only [Act.put, List.setIfInBounds_toArray, List.set_cons_zero, List.set_cons_succ])
    refine Gen.take 10 (v := ?vv7) okA (by simp only [List.getElem?_toArray, List.getElem?_cons_zero, List.getElem?_cons_succ]; rfl) (by kernel_rfl) (by kernel_rfl) (by kernel_rfl) (Or.inl ⟨by rfl, ?hh7⟩) ?_
    case hh7 => (intro wg hSw; have hc := ktells hSw; (try dsimp only at hc); go_simp; try with_reducible rfl)
    (try simp only [Act.put, List.setIfInBounds_toArray, List.set_cons_zero, List.set_cons_succ])
    refine Gen.take 11 (v := ?vv8) okA (by simp only [List.getElem?_toArray, List.getElem?_cons_zero, List.getElem?_cons_succ]; rfl) (by kernel_rfl) (by kernel_rfl) (by kernel_rfl) (Or.inl ⟨by rfl, ?hh8⟩) ?_
    case hh8 => (intro wg hSw; have hc := ktells hSw; (try dsimp only at hc); go_simp; try with_reducible rfl)
    (try simp only [Act.put, List.setIfInBounds_toArray, List.set_cons_zero, List.set_cons_succ])
    refine Gen.take 12 (v := ?vv9) okA (by simp only [List.getElem?_toArray, List.getElem?_cons_zero, List.getElem?_cons_succ]; rfl) (by kernel_rfl) (by kernel_rfl) (by kernel_rfl) (Or.inl ⟨by rfl, ?hh9⟩) ?_
    case hh9 => (intro wg hSw; have hc := ktells hSw; (try dsimp only at hc); go_simp; try with_reducible rfl)
    (try simp only [Act.put, List.setIfInBounds_toArray, List.set_cons_zero, List.set_cons_succ])
    refine Gen.finish inferInstance Gen.size okA (by kernel_rfl) inferInstance (by simp) ?_
    simp only [Gen.Fin, NewVar.put]
    (try simp only [Act.put, List.setIfInBounds_toArray, List.set_cons_zero, List.set_cons_succ])
    intro BA13 hnA13 BA14 hnA14 wf hKf hSf
    obtain ⟨wu, rfl, hg13, hg14, hup⟩ := graft2 (fun W => Below V3.heap.size V3 W) hKf.2.1.1 hKf.1.1 hSf.1
    have hz13 := hKf.2.1.2
    have hz14 := hKf.1.2
    have hne13_14 : BA13 ≠ BA14 := fun e => hnA14 (by simp [e])
    have hne14_13 : BA14 ≠ BA13 := fun e => hne13_14 e.symm
    clear hKf hSf
    refine Gen.one 15 (by kernel_rfl) (wpOp_of (by simp only [List.getElem?_toArray, List.getElem?_cons_zero, List.getElem?_cons_succ]; rfl) (by rfl) ?_)
    go_simp
    (try simp only [Act.put, List.setIfInBounds_toArray, List.set_cons_zero, List.set_cons_succ])
    refine ⟨⟨(belowRow (belowRow hup hz13 _) hz14 _), kafter (unhide HKA) (belowRow (belowRow hup hz13 _) hz14 _)⟩, ?_⟩
    refine Gen.one 16 (by kernel_rfl) (wpOp_of (by simp only [List.getElem?_toArray, List.getElem?_cons_zero, List.getElem?_cons_succ]; rfl) (by rfl) ?_)
    go_simp
    (try simp only [Act.put, List.setIfInBounds_toArray, List.set_cons_zero, List.set_cons_succ])
    refine ⟨⟨(belowRow (belowRow hup hz13 _) hz14 _), kafter (unhide HKA) (belowRow (belowRow hup hz13 _) hz14 _)⟩, ?_⟩
    refine Gen.one 17 (by kernel_rfl) (wpOp_of (by simp only [List.getElem?_toArray, List.getElem?_cons_zero, List.getElem?_cons_succ]; rfl) (by rfl) ?_)
    go_simp
    (try simp only [Act.put, List.setIfInBounds_toArray, List.set_cons_zero, List.set_cons_succ])
    refine ⟨⟨(belowRow (belowRow hup hz13 _) hz14 _), kafter (unhide HKA) (belowRow (belowRow hup hz13 _) hz14 _)⟩, ?_⟩
    refine Gen.done (K := (kAnd (kNew V3.heap.size BA13 _) (kAnd (kNew V3.heap.size BA14 _) _))) (by kernel_rfl) ⟨⟨(RowIs.other (RowIs.same hg13 _) hne13_14 _), hz13⟩, ⟨⟨(RowIs.same (IsRow.setRow hg14 _ _) _), hz14⟩, kafter (unhide HKA) (belowRow (belowRow hup hz13 _) hz14 _)⟩⟩ (fun WA hKA => ?_) _
    clear okA hup hg13 hz13 hg14 hz14
    have HK := hide hKA
    have HC := ktells hKA
    (try dsimp only at HC)
    clear hKA
    go_wp2_with (first | (go_at_call 17; refine know_at (by (repeat (first | exact kk (unhide HK) | apply kkbox | apply kkdrew | apply kkdrewN | apply kkalloc))) (fun hKa => ?_); (try simp only [World.size_alloc] at hKa); (try simp only [World.size_drew] at hKa); refine (awake_any _).mono ?_; rintro e w1 ⟨rfl, hb1⟩; have HK := hide (kafter hKa hb1); clear hKa hb1; have HC := ktells (unhide HK); (try dsimp only at HC)) | (go_at_call 21; refine know_at (by (repeat (first | exact kk (unhide HK) | apply kkbox | apply kkdrew | apply kkdrewN | apply kkalloc))) (fun hKa => ?_); (try simp only [World.size_alloc] at hKa); (try simp only [World.size_drew] at hKa); refine (refRight_is _ _ _ _ (unhide HT) (by omega) _ (by exact kget hKa (Below.refl _ _))).mono ?_; rintro e w1 ⟨rfl, hb1⟩; have HK := hide (kafter hKa hb1); clear hKa hb1; have HC := ktells (unhide HK); (try dsimp only at HC)) | (go_at_call 31; refine (refIn_any _ _ _ _).mono ?_; rintro e w2 ⟨rfl, rfl⟩) | (go_at_call 38; refine (rightRng_is _ _ _ _).mono ?_; rintro e w2 ⟨rfl, o1, rfl⟩))
    all_goals (go_ret; exact ⟨rfl, kup (unhide HK)⟩)
  | true =>
    have HT := hide ht
    obtain ⟨t2, t20⟩ := tabOk_len ht
    cases hl' : inB level 0 (t.length - 1) with
    | false =>
      have HBD := hide (show boundsR t level mass hl hh sl sh = (((0, 0), (0, 0)), 2) by simp [boundsR, ht, hl'])
      clear ht
      go_enter Try.func8, Try.ntmps8
      go_upto_region 3 with (go_at_call 17; refine know_at (by (repeat (first | exact kk (unhide HK) | apply kkbox | apply kkdrew | apply kkdrewN | apply kkalloc))) (fun hKa => ?_); (try simp only [World.size_alloc] at hKa); (try simp only [World.size_drew] at hKa); refine (awake_any _).mono ?_; rintro e w1 ⟨rfl, hb1⟩; have HK := hide (kafter hKa hb1); clear hKa hb1; have HC := ktells (unhide HK); (try dsimp only at HC))
      refine know_here (by (repeat (first | exact kk (unhide HK) | apply kkbox | apply kkdrew | apply kkdrewN | apply kkalloc))) ?_
      intro V3 hKA
      (try simp only [World.size_alloc] at hKA)
      (try simp only [World.size_drew] at hKA)
      have HKA := hide hKA
      have HCA := ktells hKA
      (try dsimp only at HCA)
      refine Gen.begin_ [⟨13, 11, #[.int .i64 0, .int .i64 0], 71⟩, ⟨14, 12, #[.int .i64 0, .int .i64 0], 71⟩] 16 (by kernel_rfl) hKA (by rfl) ⟨fun x hx => by (simp only [List.mem_cons, List.not_mem_nil, or_false] at hx; rcases hx with rfl | rfl; all_goals exact ⟨_, by rfl, by rfl, by rfl, fun _ _ => by kernel_rfl⟩), by kernel_rfl, fun _ _ _ _ _ => Iff.rfl⟩ (fun okA => ?_)
      clear hKA
      refine Gen.take 0 (v := ?vv10) okA (by simp only [List.getElem?_toArray, List.getElem?_cons_zero]; rfl) (by kernel_rfl) (by kernel_rfl) (by kernel_rfl) (Or.inl ⟨by rfl, ?hh10⟩) ?_
      case hh10 => (intro wg hSw; have hc := ktells hSw; (try dsimp only at hc); go_simp; try with_reducible rfl)
      (try simp only [Act.put, List.setIfInBounds_toArray, List.set_cons_zero, List.set_cons_succ])
      refine Gen.take 2 (v := ?vv11) okA (by simp only [List.getElem?_toArray, List.getElem?_cons_zero, List.getElem?_cons_succ]; rfl) (by kernel_rfl) (by kernel_rfl) (by kernel_rfl) (Or.inl ⟨by rfl, ?hh11⟩) ?_
      case hh11 => (intro wg hSw; have hc := ktells hSw; (try dsimp only at hc); go_simp; try with_reducible rfl)
      (try simp only [Act.put, List.setIfInBounds_toArray, List.set_cons_zero, List.set_cons_succ])
      refine Gen.take 3 (v := ?vv12) okA (by simp only [List.getElem?_toArray, List.getElem?_cons_zero, List.getElem?_cons_succ]; rfl) (by kernel_rfl) (by kernel_rfl) (by kernel_rfl) (Or.inl ⟨by rfl, ?hh12⟩) ?_
      case hh12 => (intro wg hSw; have hc := ktells hSw; (try dsimp only at hc); go_simp; try with_reducible rfl)
      (try simp only [Act.put, List.setIfInBounds_toArray, List.set_cons_zero, List.set_cons_succ])
      refine Gen.take 4 (v := ?vv13) okA (by simp only [List.getElem?_toArray, List.getElem?_cons_zero, List.getElem?_cons_succ]; rfl) (by kernel_rfl) (by kernel_rfl) (by kernel_rfl) (Or.inl ⟨by rfl, ?hh13⟩) ?_
      case hh13 => (intro wg hSw; have hc := ktells hSw; (try dsimp only at hc); go_simp; try with_reducible rfl)
      (try simp only [Act.put, List.setIfInBounds_toArray, List.set_cons_zero, List.set_cons_succ])
      refine Gen.take 6 (v := ?vv14) okA (by simp only [List.getElem?_toArray, List.getElem?_cons_zero, List.getElem?_cons_succ]; rfl) (by kernel_rfl) (by kernel_rfl) (by kernel_rfl) (Or.inl ⟨by rfl, ?hh14⟩) ?_
      case hh14 => (intro wg hSw; have hc := ktells hSw; (try dsimp only at hc); go_simp; try with_reducible rfl)
      (try simp only [Act.put, List.setIfInBounds_toArray, List.set_cons_zero, List.set_cons_succ])
      refine Gen.step inferInstance Gen.size 1 okA (by kernel_rfl) inferInstance (by simp) (fun wg hKg hSg => wpOp_of (by simp only [List.getElem?_toArray, List.getElem?_cons_zero, List.getElem?_cons_succ]; rfl) (by rfl) ?_)
      go_simp
      refine (mkTable_any _ _ _ (by omega) _ (by exact kget hKg (Below.refl _ _))).mono ?_
      rintro e wh ⟨v1, rfl, ⟨A1, c1, rfl, hc1, hr1, -⟩, hb1⟩
      (try dsimp only)
      refine Gen.more (F := kRds eRow A1 t) rfl hKg hb1 hr1 ?_
      clear hKg hSg
      clear hb1
      clear hr1
      refine Gen.step inferInstance Gen.size 5 okA (by kernel_rfl) inferInstance (by simp) (fun wg hKg hSg => wpOp_of (by simp only [List.getElem?_toArray, List.getElem?_cons_zero, List.getElem?_cons_succ]; rfl) (by rfl) ?_)
      go_simp
      refine (mkRng_is _ _ _).mono ?_
      rintro e wh ⟨rfl, o1, o2, rfl⟩
      (try dsimp only)
      refine Gen.stay rfl hKg (by (repeat (first | exact Below.refl _ _ | refine Below.allocs ?_ _ | refine Below.drew ?_ | refine Below.drewNs ?_ _))) ?_
      clear hKg hSg
      refine Gen.step inferInstance Gen.size 7 okA (by kernel_rfl) inferInstance (by simp) (fun wg hKg hSg => wpOp_of (by simp only [List.getElem?_toArray, List.getElem?_cons_zero, List.getElem?_cons_succ]; rfl) (by rfl) ?_)
      go_simp
      refine (mkRng_is _ _ _).mono ?_
      rintro e wh ⟨rfl, o1, o2, rfl⟩
      (try dsimp only)
      refine Gen.stay rfl hKg (by (repeat (first | exact Below.refl _ _ | refine Below.allocs ?_ _ | refine Below.drew ?_ | refine Below.drewNs ?_ _))) ?_
      clear hKg hSg
      refine Gen.step inferInstance Gen.size 8 okA (by kernel_rfl) inferInstance (by simp) (fun wg hKg hSg => wpOp_of (by simp only [List.getElem?_toArray, List.getElem?_cons_zero, List.getElem?_cons_succ]; rfl) (by rfl) ?_)
      go_simp
      refine (bounds_is _ _ _ _ _ _ _ _ _ _ _ _ _ _ (unhide HBD) (by omega) (by omega) _ (by exact kget hKg (Below.refl _ _))).mono ?_
      rintro e wh ⟨rfl, hb1⟩
      (try dsimp only)
      refine Gen.stay rfl hKg hb1 ?_
      clear hKg hSg
      clear hb1
      refine Gen.take 9 (v := ?vv15) okA (by simp only [List.getElem?_toArray, List.getElem?_cons_zero, List.getElem?_cons_succ]; rfl) (by kernel_rfl) (by kernel_rfl) (by kernel_rfl) (Or.inl ⟨by rfl, ?hh15⟩) ?_
      case hh15 => (intro wg hSw; have hc := ktells hSw; (try dsimp only at hc); go_simp; try with_reducible rfl)
      (try simp only [Act.put, List.setIfInBounds_toArray, List.set_cons_zero, List.set_cons_succ])
      refine Gen.take 10 (v := ?vv16) okA (by simp only [List.getElem?_toArray, List.getElem?_cons_zero, List.getElem?_cons_succ]; rfl) (by kernel_rfl) (by kernel_rfl) (by kernel_rfl) (Or.inl ⟨by rfl, ?hh16⟩) ?_
      case hh16 => (intro wg hSw; have hc := ktells hSw; (try dsimp only at hc); go_simp; try with_reducible rfl)
      (try simp only [Act.put, List.setIfInBounds_toArray, List.set_cons_zero, List.set_cons_succ])
      refine Gen.take 11 (v := ?vv17) okA (by simp only [List.getElem?_toArray, List.getElem?_cons_zero, List.getElem?_cons_succ]; rfl) (by kernel_rfl) (by kernel_rfl) (by kernel_rfl) (Or.inl ⟨by rfl, ?hh17⟩) ?_
      case hh17 => (intro wg hSw; have hc := ktells hSw; (try dsimp only at hc); go_simp; try with_reducible rfl)
      (try simp only [Act.put, List.setIfInBounds_toArray, List.set_cons_zero, List.set_cons_succ])
      refine Gen.take 12 (v := ?vv18) okA (by simp only [List.getElem?_toArray, List.getElem?_cons_zero, List.getElem?_cons_succ]; rfl) (by kernel_rfl) (by kernel_rfl) (by kernel_rfl) (Or.inl ⟨by rfl, ?hh18⟩) ?_
      case hh18 => (intro wg hSw; have hc := ktells hSw; (try dsimp only at hc); go_simp; try with_reducible rfl)
      (try simp only [Act.put, List.setIfInBounds_toArray, List.set_cons_zero, List.set_cons_succ])
      refine Gen.finish inferInstance Gen.size okA (by kernel_rfl) inferInstance (by simp) ?_
      simp only [Gen.Fin, NewVar.put]
      (try simp only [Act.put, List.setIfInBounds_toArray, List.set_cons_zero, List.set_cons_succ])
      intro BA13 hnA13 BA14 hnA14 wf hKf hSf
      obtain ⟨wu, rfl, hg13, hg14, hup⟩ := graft2 (fun W => Below V3.heap.size V3 W) hKf.2.1.1 hKf.1.1 hSf.1
      have hz13 := hKf.2.1.2
      have hz14 := hKf.1.2
      have hne13_14 : BA13 ≠ BA14 := fun e => hnA14 (by simp [e])
      have hne14_13 : BA14 ≠ BA13 := fun e => hne13_14 e.symm
      clear hKf hSf
      refine Gen.one 15 (by kernel_rfl) (wpOp_of (by simp only [List.getElem?_toArray, List.getElem?_cons_zero, List.getElem?_cons_succ]; rfl) (by rfl) ?_)
      go_simp
      (try simp only [Act.put, List.setIfInBounds_toArray, List.set_cons_zero, List.set_cons_succ])
      refine ⟨⟨(belowRow (belowRow hup hz13 _) hz14 _), kafter (unhide HKA) (belowRow (belowRow hup hz13 _) hz14 _)⟩, ?_⟩
      refine Gen.one 16 (by kernel_rfl) (wpOp_of (by simp only [List.getElem?_toArray, List.getElem?_cons_zero, List.getElem?_cons_succ]; rfl) (by rfl) ?_)
      go_simp
      (try simp only [Act.put, List.setIfInBounds_toArray, List.set_cons_zero, List.set_cons_succ])
      refine ⟨⟨(belowRow (belowRow hup hz13 _) hz14 _), kafter (unhide HKA) (belowRow (belowRow hup hz13 _) hz14 _)⟩, ?_⟩
      refine Gen.one 17 (by kernel_rfl) (wpOp_of (by simp only [List.getElem?_toArray, List.getElem?_cons_zero, List.getElem?_cons_succ]; rfl) (by rfl) ?_)
      go_simp
      (try simp only [Act.put, List.setIfInBounds_toArray, List.set_cons_zero, List.set_cons_succ])
      refine ⟨⟨(belowRow (belowRow hup hz13 _) hz14 _), kafter (unhide HKA) (belowRow (belowRow hup hz13 _) hz14 _)⟩, ?_⟩
      refine Gen.done (K := (kAnd (kNew V3.heap.size BA13 _) (kAnd (kNew V3.heap.size BA14 _) _))) (by kernel_rfl) ⟨⟨(RowIs.other (RowIs.same hg13 _) hne13_14 _), hz13⟩, ⟨⟨(RowIs.same (IsRow.setRow hg14 _ _) _), hz14⟩, kafter (unhide HKA) (belowRow (belowRow hup hz13 _) hz14 _)⟩⟩ (fun WA hKA => ?_) _
      clear okA hup hg13 hz13 hg14 hz14
      have HK := hide hKA
      have HC := ktells hKA
      (try dsimp only at HC)
      clear hKA
      go_wp2_with (first | (go_at_call 17; refine know_at (by (repeat (first | exact kk (unhide HK) | apply kkbox | apply kkdrew | apply kkdrewN | apply kkalloc))) (fun hKa => ?_); (try simp only [World.size_alloc] at hKa); (try simp only [World.size_drew] at hKa); refine (awake_any _).mono ?_; rintro e w1 ⟨rfl, hb1⟩; have HK := hide (kafter hKa hb1); clear hKa hb1; have HC := ktells (unhide HK); (try dsimp only at HC)) | (go_at_call 21; refine know_at (by (repeat (first | exact kk (unhide HK) | apply kkbox | apply kkdrew | apply kkdrewN | apply kkalloc))) (fun hKa => ?_); (try simp only [World.size_alloc] at hKa); (try simp only [World.size_drew] at hKa); refine (refRight_is _ _ _ _ (unhide HT) (by omega) _ (by exact kget hKa (Below.refl _ _))).mono ?_; rintro e w1 ⟨rfl, hb1⟩; have HK := hide (kafter hKa hb1); clear hKa hb1; have HC := ktells (unhide HK); (try dsimp only at HC)) | (go_at_call 31; refine (refIn_any _ _ _ _).mono ?_; rintro e w2 ⟨rfl, rfl⟩) | (go_at_call 38; refine (rightRng_is _ _ _ _).mono ?_; rintro e w2 ⟨rfl, o1, rfl⟩))
      all_goals (go_ret; exact ⟨rfl, kup (unhide HK)⟩)
    | true =>
      cases hm : inB mass 0 1000000 with
      | false =>
        have HBD := hide (show boundsR t level mass hl hh sl sh = (((0, 0), (0, 0)), 1) by simp [boundsR, ht, hl', hm])
        clear ht
        go_enter Try.func8, Try.ntmps8
        go_upto_region 3 with (go_at_call 17; refine know_at (by (repeat (first | exact kk (unhide HK) | apply kkbox | apply kkdrew | apply kkdrewN | apply kkalloc))) (fun hKa => ?_); (try simp only [World.size_alloc] at hKa); (try simp only [World.size_drew] at hKa); refine (awake_any _).mono ?_; rintro e w1 ⟨rfl, hb1⟩; have HK := hide (kafter hKa hb1); clear hKa hb1; have HC := ktells (unhide HK); (try dsimp only at HC))
        refine know_here (by (repeat (first | exact kk (unhide HK) | apply kkbox | apply kkdrew | apply kkdrewN | apply kkalloc))) ?_
        intro V3 hKA
        (try simp only [World.size_alloc] at hKA)
        (try simp only [World.size_drew] at hKA)
        have HKA := hide hKA
        have HCA := ktells hKA
        (try dsimp only at HCA)
        refine Gen.begin_ [⟨13, 11, #[.int .i64 0, .int .i64 0], 71⟩, ⟨14, 12, #[.int .i64 0, .int .i64 0], 71⟩] 16 (by kernel_rfl) hKA (by rfl) ⟨fun x hx => by (simp only [List.mem_cons, List.not_mem_nil, or_false] at hx; rcases hx with rfl | rfl; all_goals exact ⟨_, by rfl, by rfl, by rfl, fun _ _ => by kernel_rfl⟩), by kernel_rfl, fun _ _ _ _ _ => Iff.rfl⟩ (fun okA => ?_)
        clear hKA
        refine Gen.take 0 (v := ?vv19) okA (by simp only [List.getElem?_toArray, List.getElem?_cons_zero]; rfl) (by kernel_rfl) (by kernel_rfl) (by kernel_rfl) (Or.inl ⟨by rfl, ?hh19⟩) ?_
        case hh19 => (intro wg hSw; have hc := ktells hSw; (try dsimp only at hc); go_simp; try with_reducible rfl)
        (try simp only [Act.put, List.setIfInBounds_toArray, List.set_cons_zero, List.set_cons_succ])
        refine Gen.take 2 (v := ?vv20) okA (by simp only [List.getElem?_toArray, List.getElem?_cons_zero, List.getElem?_cons_succ]; rfl) (by kernel_rfl) (by kernel_rfl) (by kernel_rfl) (Or.inl ⟨by rfl, ?hh20⟩) ?_
        case hh20 => (intro wg hSw; have hc := ktells hSw; (try dsimp only at hc); go_simp; try with_reducible rfl)
        (try simp only [Act.put, List.setIfInBounds_toArray, List.set_cons_zero, List.set_cons_succ])
        refine Gen.take 3 (v := ?vv21) okA (by simp only [List.getElem?_toArray, List.getElem?_cons_zero, List.getElem?_cons_succ]; rfl) (by kernel_rfl) (by kernel_rfl) (by kernel_rfl) (Or.inl ⟨by rfl, ?hh21⟩) ?_
        case hh21 => (intro wg hSw; have hc := ktells hSw; (try dsimp only at hc); go_simp; try with_reducible rfl)
        (try simp only [Act.put, List.setIfInBounds_toArray, List.set_cons_zero, List.set_cons_succ])
        refine Gen.take 4 (v := ?vv22) okA (by simp only [List.getElem?_toArray, List.getElem?_cons_zero, List.getElem?_cons_succ]; rfl) (by kernel_rfl) (by kernel_rfl) (by kernel_rfl) (Or.inl ⟨by rfl, ?hh22⟩) ?_
        case hh22 => (intro wg hSw; have hc := ktells hSw; (try dsimp only at hc); go_simp; try with_reducible rfl)
        (try simp only [Act.put, List.setIfInBounds_toArray, List.set_cons_zero, List.set_cons_succ])
        refine Gen.take 6 (v := ?vv23) okA (by simp only [List.getElem?_toArray, List.getElem?_cons_zero, List.getElem?_cons_succ]; rfl) (by kernel_rfl) (by kernel_rfl) (by kernel_rfl) (Or.inl ⟨by rfl, ?hh23⟩) ?_
        case hh23 => (intro wg hSw; have hc := ktells hSw; (try dsimp only at hc); go_simp; try with_reducible rfl)
        (try simp only [Act.put, List.setIfInBounds_toArray, List.set_cons_zero, List.set_cons_succ])
        refine Gen.step inferInstance Gen.size 1 okA (by kernel_rfl) inferInstance (by simp) (fun wg hKg hSg => wpOp_of (by simp only [List.getElem?_toArray, List.getElem?_cons_zero, List.getElem?_cons_succ]; rfl) (by rfl) ?_)
        go_simp
        refine (mkTable_any _ _ _ (by omega) _ (by exact kget hKg (Below.refl _ _))).mono ?_
        rintro e wh ⟨v1, rfl, ⟨A1, c1, rfl, hc1, hr1, -⟩, hb1⟩
        (try dsimp only)
        refine Gen.more (F := kRds eRow A1 t) rfl hKg hb1 hr1 ?_
        clear hKg hSg
        clear hb1
        clear hr1
        refine Gen.step inferInstance Gen.size 5 okA (by kernel_rfl) inferInstance (by simp) (fun wg hKg hSg => wpOp_of (by simp only [List.getElem?_toArray, List.getElem?_cons_zero, List.getElem?_cons_succ]; rfl) (by rfl) ?_)
        go_simp
        refine (mkRng_is _ _ _).mono ?_
        rintro e wh ⟨rfl, o1, o2, rfl⟩
        (try dsimp only)
        refine Gen.stay rfl hKg (by (repeat (first | exact Below.refl _ _ | refine Below.allocs ?_ _ | refine Below.drew ?_ | refine Below.drewNs ?_ _))) ?_
        clear hKg hSg
        refine Gen.step inferInstance Gen.size 7 okA (by kernel_rfl) inferInstance (by simp) (fun wg hKg hSg => wpOp_of (by simp only [List.getElem?_toArray, List.getElem?_cons_zero, List.getElem?_cons_succ]; rfl) (by rfl) ?_)
        go_simp
        refine (mkRng_is _ _ _).mono ?_
        rintro e wh ⟨rfl, o1, o2, rfl⟩
        (try dsimp only)
        refine Gen.stay rfl hKg (by (repeat (first | exact Below.refl _ _ | refine Below.allocs ?_ _ | refine Below.drew ?_ | refine Below.drewNs ?_ _))) ?_
        clear hKg hSg
        refine Gen.step inferInstance Gen.size 8 okA (by kernel_rfl) inferInstance (by simp) (fun wg hKg hSg => wpOp_of (by simp only [List.getElem?_toArray, List.getElem?_cons_zero, List.getElem?_cons_succ]; rfl) (by rfl) ?_)
        go_simp
        refine (bounds_is _ _ _ _ _ _ _ _ _ _ _ _ _ _ (unhide HBD) (by omega) (by omega) _ (by exact kget hKg (Below.refl _ _))).mono ?_
        rintro e wh ⟨rfl, hb1⟩
        (try dsimp only)
        refine Gen.stay rfl hKg hb1 ?_
        clear hKg hSg
        clear hb1
        refine Gen.take 9 (v := ?vv24) okA (by simp only [List.getElem?_toArray, List.getElem?_cons_zero, List.getElem?_cons_succ]; rfl) (by kernel_rfl) (by kernel_rfl) (by kernel_rfl) (Or.inl ⟨by rfl, ?hh24⟩) ?_
        case hh24 => (intro wg hSw; have hc := ktells hSw; (try dsimp only at hc); go_simp; try with_reducible rfl)
        (try simp only [Act.put, List.setIfInBounds_toArray, List.set_cons_zero, List.set_cons_succ])
        refine Gen.take 10 (v := ?vv25) okA (by simp only [List.getElem?_toArray, List.getElem?_cons_zero, List.getElem?_cons_succ]; rfl) (by kernel_rfl) (by kernel_rfl) (by kernel_rfl) (Or.inl ⟨by rfl, ?hh25⟩) ?_
        case hh25 => (intro wg hSw; have hc := ktells hSw; (try dsimp only at hc); go_simp; try with_reducible rfl)
        (try simp only [Act.put, List.setIfInBounds_toArray, List.set_cons_zero, List.set_cons_succ])
        refine Gen.take 11 (v := ?vv26) okA (by simp only [List.getElem?_toArray, List.getElem?_cons_zero, List.getElem?_cons_succ]; rfl) (by kernel_rfl) (by kernel_rfl) (by kernel_rfl) (Or.inl ⟨by rfl, ?hh26⟩) ?_
        case hh26 => (intro wg hSw; have hc := ktells hSw; (try dsimp only at hc); go_simp; try with_reducible rfl)
        (try simp only [Act.put, List.setIfInBounds_toArray, List.set_cons_zero, List.set_cons_succ])
        refine Gen.take 12 (v := ?vv27) okA (by simp only [List.getElem?_toArray, List.getElem?_cons_zero, List.getElem?_cons_succ]; rfl) (by kernel_rfl) (by kernel_rfl) (by kernel_rfl) (Or.inl ⟨by rfl, ?hh27⟩) ?_
        case hh27 => (intro wg hSw; have hc := ktells hSw; (try dsimp only at hc); go_simp; try with_reducible rfl)
        (try simp only [Act.put, List.setIfInBounds_toArray, List.set_cons_zero, List.set_cons_succ])
        refine Gen.finish inferInstance Gen.size okA (by kernel_rfl) inferInstance (by simp) ?_
        simp only [Gen.Fin, NewVar.put]
        (try simp only [Act.put, List.setIfInBounds_toArray, List.set_cons_zero, List.set_cons_succ])
        intro BA13 hnA13 BA14 hnA14 wf hKf hSf
        obtain ⟨wu, rfl, hg13, hg14, hup⟩ := graft2 (fun W => Below V3.heap.size V3 W) hKf.2.1.1 hKf.1.1 hSf.1
        have hz13 := hKf.2.1.2
        have hz14 := hKf.1.2
        have hne13_14 : BA13 ≠ BA14 := fun e => hnA14 (by simp [e])
        have hne14_13 : BA14 ≠ BA13 := fun e => hne13_14 e.symm
        clear hKf hSf
        refine Gen.one 15 (by kernel_rfl) (wpOp_of (by simp only [List.getElem?_toArray, List.getElem?_cons_zero, List.getElem?_cons_succ]; rfl) (by rfl) ?_)
        go_simp
        (try simp only [Act.put, List.setIfInBounds_toArray, List.set_cons_zero, List.set_cons_succ])
        refine ⟨⟨(belowRow (belowRow hup hz13 _) hz14 _), kafter (unhide HKA) (belowRow (belowRow hup hz13 _) hz14 _)⟩, ?_⟩
        refine Gen.one 16 (by kernel_rfl) (wpOp_of (by simp only [List.getElem?_toArray, List.getElem?_cons_zero, List.getElem?_cons_succ]; rfl) (by rfl) ?_)
        go_simp
        (try simp only [Act.put, List.setIfInBounds_toArray, List.set_cons_zero, List.set_cons_succ])
        refine ⟨⟨(belowRow (belowRow hup hz13 _) hz14 _), kafter (unhide HKA) (belowRow (belowRow hup hz13 _) hz14 _)⟩, ?_⟩
        refine Gen.one 17 (by kernel_rfl) (wpOp_of (by simp only [List.getElem?_toArray, List.getElem?_cons_zero, List.getElem?_cons_succ]; rfl) (by rfl) ?_)
        go_simp
        (try simp only [Act.put, List.setIfInBounds_toArray, List.set_cons_zero, List.set_cons_succ])
        refine ⟨⟨(belowRow (belowRow hup hz13 _) hz14 _), kafter (unhide HKA) (belowRow (belowRow hup hz13 _) hz14 _)⟩, ?_⟩
        refine Gen.done (K := (kAnd (kNew V3.heap.size BA13 _) (kAnd (kNew V3.heap.size BA14 _) _))) (by kernel_rfl) ⟨⟨(RowIs.other (RowIs.same hg13 _) hne13_14 _), hz13⟩, ⟨⟨(RowIs.same (IsRow.setRow hg14 _ _) _), hz14⟩, kafter (unhide HKA) (belowRow (belowRow hup hz13 _) hz14 _)⟩⟩ (fun WA hKA => ?_) _
        clear okA hup hg13 hz13 hg14 hz14
        have HK := hide hKA
        have HC := ktells hKA
        (try dsimp only at HC)
        clear hKA
        go_wp2_with (first | (go_at_call 17; refine know_at (by (repeat (first | exact kk (unhide HK) | apply kkbox | apply kkdrew | apply kkdrewN | apply kkalloc))) (fun hKa => ?_); (try simp only [World.size_alloc] at hKa); (try simp only [World.size_drew] at hKa); refine (awake_any _).mono ?_; rintro e w1 ⟨rfl, hb1⟩; have HK := hide (kafter hKa hb1); clear hKa hb1; have HC := ktells (unhide HK); (try dsimp only at HC)) | (go_at_call 21; refine know_at (by (repeat (first | exact kk (unhide HK) | apply kkbox | apply kkdrew | apply kkdrewN | apply kkalloc))) (fun hKa => ?_); (try simp only [World.size_alloc] at hKa); (try simp only [World.size_drew] at hKa); refine (refRight_is _ _ _ _ (unhide HT) (by omega) _ (by exact kget hKa (Below.refl _ _))).mono ?_; rintro e w1 ⟨rfl, hb1⟩; have HK := hide (kafter hKa hb1); clear hKa hb1; have HC := ktells (unhide HK); (try dsimp only at HC)) | (go_at_call 31; refine (refIn_any _ _ _ _).mono ?_; rintro e w2 ⟨rfl, rfl⟩) | (go_at_call 38; refine (rightRng_is _ _ _ _).mono ?_; rintro e w2 ⟨rfl, o1, rfl⟩))
        all_goals (go_ret; exact ⟨rfl, kup (unhide HK)⟩)
      | true =>
        obtain ⟨m0, m1⟩ := inB_iff.1 hm
        have hw1 : IntKind.i64.wrap (4000 * mass) = 4000 * mass := w64 (by omega) (by omega)
        have hw2 : IntKind.i64.wrap (10000 * mass) = 10000 * mass := w64 (by omega) (by omega)
        cases hh' : rngB hl hh (4000 * mass) with
        | false =>
          have HBD := hide (show boundsR t level mass hl hh sl sh = (((0, 0), (0, 0)), 1) by simp [boundsR, ht, hl', hm, hh'])
          clear ht
          go_enter Try.func8, Try.ntmps8
          go_upto_region 3 with (go_at_call 17; refine know_at (by (repeat (first | exact kk (unhide HK) | apply kkbox | apply kkdrew | apply kkdrewN | apply kkalloc))) (fun hKa => ?_); (try simp only [World.size_alloc] at hKa); (try simp only [World.size_drew] at hKa); refine (awake_any _).mono ?_; rintro e w1 ⟨rfl, hb1⟩; have HK := hide (kafter hKa hb1); clear hKa hb1; have HC := ktells (unhide HK); (try dsimp only at HC))
          refine know_here (by (repeat (first | exact kk (unhide HK) | apply kkbox | apply kkdrew | apply kkdrewN | apply kkalloc))) ?_
          intro V3 hKA
          (try simp only [World.size_alloc] at hKA)
          (try simp only [World.size_drew] at hKA)
          have HKA := hide hKA
          have HCA := ktells hKA
          (try dsimp only at HCA)
          refine Gen.begin_ [⟨13, 11, #[.int .i64 0, .int .i64 0], 71⟩, ⟨14, 12, #[.int .i64 0, .int .i64 0], 71⟩] 16 (by kernel_rfl) hKA (by rfl) ⟨fun x hx => by (simp only [List.mem_cons, List.not_mem_nil, or_false] at hx; rcases hx with rfl | rfl; all_goals exact ⟨_, by rfl, by rfl, by rfl, fun _ _ => by kernel_rfl⟩), by kernel_rfl, fun _ _ _ _ _ => Iff.rfl⟩ (fun okA => ?_)
          clear hKA
          refine Gen.take 0 (v := ?vv28) okA (by simp only [List.getElem?_toArray, List.getElem?_cons_zero]; rfl) (by kernel_rfl) (by kernel_rfl) (by kernel_rfl) (Or.inl ⟨by rfl, ?hh28⟩) ?_
          case hh28 => (intro wg hSw; have hc := ktells hSw; (try dsimp only at hc); go_simp; try with_reducible rfl)
          (try simp only [Act.put, List.setIfInBounds_toArray, List.set_cons_zero, List.set_cons_succ])
          refine Gen.take 2 (v := ?vv29) okA (by simp only [List.getElem?_toArray, List.getElem?_cons_zero, List.getElem?_cons_succ]; rfl) (by kernel_rfl) (by kernel_rfl) (by kernel_rfl) (Or.inl ⟨by rfl, ?hh29⟩) ?_
          case hh29 => (intro wg hSw; have hc := ktells hSw; (try dsimp only at hc); go_simp; try with_reducible rfl)
          (try simp only [Act.put, List.setIfInBounds_toArray, List.set_cons_zero, List.set_cons_succ])
          refine Gen.take 3 (v := ?vv30) okA (by simp only [List.getElem?_toArray, List.getElem?_cons_zero, List.getElem?_cons_succ]; rfl) (by kernel_rfl) (by kernel_rfl) (by kernel_rfl) (Or.inl ⟨by rfl, ?hh30⟩) ?_
          case hh30 => (intro wg hSw; have hc := ktells hSw; (try dsimp only at hc); go_simp; try with_reducible rfl)
          (try simp only [Act.put, List.setIfInBounds_toArray, List.set_cons_zero, List.set_cons_succ])
          refine Gen.take 4 (v := ?vv31) okA (by simp only [List.getElem?_toArray, List.getElem?_cons_zero, List.getElem?_cons_succ]; rfl) (by kernel_rfl) (by kernel_rfl) (by kernel_rfl) (Or.inl ⟨by rfl, ?hh31⟩) ?_
          case hh31 => (intro wg hSw; have hc := ktells hSw; (try dsimp only at hc); go_simp; try with_reducible rfl)
          (try simp only [Act.put, List.setIfInBounds_toArray, List.set_cons_zero, List.set_cons_succ])
          refine Gen.take 6 (v := ?vv32) okA (by simp only [List.getElem?_toArray, List.getElem?_cons_zero, List.getElem?_cons_succ]; rfl) (by kernel_rfl) (by kernel_rfl) (by kernel_rfl) (Or.inl ⟨by rfl, ?hh32⟩) ?_
          case hh32 => (intro wg hSw; have hc := ktells hSw; (try dsimp only at hc); go_simp; try with_reducible rfl)
          (try simp only [Act.put, List.setIfInBounds_toArray, List.set_cons_zero, List.set_cons_succ])
          refine Gen.step inferInstance Gen.size 1 okA (by kernel_rfl) inferInstance (by simp) (fun wg hKg hSg => wpOp_of (by simp only [List.getElem?_toArray, List.getElem?_cons_zero, List.getElem?_cons_succ]; rfl) (by rfl) ?_)
          go_simp
          refine (mkTable_any _ _ _ (by omega) _ (by exact kget hKg (Below.refl _ _))).mono ?_
          rintro e wh ⟨v1, rfl, ⟨A1, c1, rfl, hc1, hr1, -⟩, hb1⟩
          (try dsimp only)
          refine Gen.more (F := kRds eRow A1 t) rfl hKg hb1 hr1 ?_
          clear hKg hSg
          clear hb1
          clear hr1
          refine Gen.step inferInstance Gen.size 5 okA (by kernel_rfl) inferInstance (by simp) (fun wg hKg hSg => wpOp_of (by simp only [List.getElem?_toArray, List.getElem?_cons_zero, List.getElem?_cons_succ]; rfl) (by rfl) ?_)
          go_simp
          refine (mkRng_is _ _ _).mono ?_
          rintro e wh ⟨rfl, o1, o2, rfl⟩
          (try dsimp only)
          refine Gen.stay rfl hKg (by (repeat (first | exact Below.refl _ _ | refine Below.allocs ?_ _ | refine Below.drew ?_ | refine Below.drewNs ?_ _))) ?_
          clear hKg hSg
          refine Gen.step inferInstance Gen.size 7 okA (by kernel_rfl) inferInstance (by simp) (fun wg hKg hSg => wpOp_of (by simp only [List.getElem?_toArray, List.getElem?_cons_zero, List.getElem?_cons_succ]; rfl) (by rfl) ?_)
          go_simp
          refine (mkRng_is _ _ _).mono ?_
          rintro e wh ⟨rfl, o1, o2, rfl⟩
          (try dsimp only)
          refine Gen.stay rfl hKg (by (repeat (first | exact Below.refl _ _ | refine Below.allocs ?_ _ | refine Below.drew ?_ | refine Below.drewNs ?_ _))) ?_
          clear hKg hSg
          refine Gen.step inferInstance Gen.size 8 okA (by kernel_rfl) inferInstance (by simp) (fun wg hKg hSg => wpOp_of (by simp only [List.getElem?_toArray, List.getElem?_cons_zero, List.getElem?_cons_succ]; rfl) (by rfl) ?_)
          go_simp
          refine (bounds_is _ _ _ _ _ _ _ _ _ _ _ _ _ _ (unhide HBD) (by omega) (by omega) _ (by exact kget hKg (Below.refl _ _))).mono ?_
          rintro e wh ⟨rfl, hb1⟩
          (try dsimp only)
          refine Gen.stay rfl hKg hb1 ?_
          clear hKg hSg
          clear hb1
          refine Gen.take 9 (v := ?vv33) okA (by simp only [List.getElem?_toArray, List.getElem?_cons_zero, List.getElem?_cons_succ]; rfl) (by kernel_rfl) (by kernel_rfl) (by kernel_rfl) (Or.inl ⟨by rfl, ?hh33⟩) ?_
          case hh33 => (intro wg hSw; have hc := ktells hSw; (try dsimp only at hc); go_simp; try with_reducible rfl)
          (try simp only [Act.put, List.setIfInBounds_toArray, List.set_cons_zero, List.set_cons_succ])
          refine Gen.take 10 (v := ?vv34) okA (by simp only [List.getElem?_toArray, List.getElem?_cons_zero, List.getElem?_cons_succ]; rfl) (by kernel_rfl) (by kernel_rfl) (by kernel_rfl) (Or.inl ⟨by rfl, ?hh34⟩) ?_
          case hh34 => (intro wg hSw; have hc := ktells hSw; (try dsimp only at hc); go_simp; try with_reducible rfl)
          (try simp only [Act.put, List.setIfInBounds_toArray, List.set_cons_zero, List.set_cons_succ])
          refine Gen.take 11 (v := ?vv35) okA (by simp only [List.getElem?_toArray, List.getElem?_cons_zero, List.getElem?_cons_succ]; rfl) (by kernel_rfl) (by kernel_rfl) (by kernel_rfl) (Or.inl ⟨by rfl, ?hh35⟩) ?_
          case hh35 => (intro wg hSw; have hc := ktells hSw; (try dsimp only at hc); go_simp; try with_reducible rfl)
          (try simp only [Act.put, List.setIfInBounds_toArray, List.set_cons_zero, List.set_cons_succ])
          refine Gen.take 12 (v := ?vv36) okA (by simp only [List.getElem?_toArray, List.getElem?_cons_zero, List.getElem?_cons_succ]; rfl) (by kernel_rfl) (by kernel_rfl) (by kernel_rfl) (Or.inl ⟨by rfl, ?hh36⟩) ?_
          case hh36 => (intro wg hSw; have hc := ktells hSw; (try dsimp only at hc); go_simp; try with_reducible rfl)
          (try simp only [Act.put, List.setIfInBounds_toArray, List.set_cons_zero, List.set_cons_succ])
          refine Gen.finish inferInstance Gen.size okA (by kernel_rfl) inferInstance (by simp) ?_
          simp only [Gen.Fin, NewVar.put]
          (try simp only [Act.put, List.setIfInBounds_toArray, List.set_cons_zero, List.set_cons_succ])
          intro BA13 hnA13 BA14 hnA14 wf hKf hSf
          obtain ⟨wu, rfl, hg13, hg14, hup⟩ := graft2 (fun W => Below V3.heap.size V3 W) hKf.2.1.1 hKf.1.1 hSf.1
          have hz13 := hKf.2.1.2
          have hz14 := hKf.1.2
          have hne13_14 : BA13 ≠ BA14 := fun e => hnA14 (by simp [e])
          have hne14_13 : BA14 ≠ BA13 := fun e => hne13_14 e.symm
          clear hKf hSf
          refine Gen.one 15 (by kernel_rfl) (wpOp_of (by simp only [List.getElem?_toArray, List.getElem?_cons_zero, List.getElem?_cons_succ]; rfl) (by rfl) ?_)
          go_simp
          (try simp only [Act.put, List.setIfInBounds_toArray, List.set_cons_zero, List.set_cons_succ])
          refine ⟨⟨(belowRow (belowRow hup hz13 _) hz14 _), kafter (unhide HKA) (belowRow (belowRow hup hz13 _) hz14 _)⟩, ?_⟩
          refine Gen.one 16 (by kernel_rfl) (wpOp_of (by simp only [List.getElem?_toArray, List.getElem?_cons_zero, List.getElem?_cons_succ]; rfl) (by rfl) ?_)
          go_simp
          (try simp only [Act.put, List.setIfInBounds_toArray, List.set_cons_zero, List.set_cons_succ])
          refine ⟨⟨(belowRow (belowRow hup hz13 _) hz14 _), kafter (unhide HKA) (belowRow (belowRow hup hz13 _) hz14 _)⟩, ?_⟩
          refine Gen.one 17 (by kernel_rfl) (wpOp_of (by simp only [List.getElem?_toArray, List.getElem?_cons_zero, List.getElem?_cons_succ]; rfl) (by rfl) ?_)
          go_simp
          (try simp only [Act.put, List.setIfInBounds_toArray, List.set_cons_zero, List.set_cons_succ])
          refine ⟨⟨(belowRow (belowRow hup hz13 _) hz14 _), kafter (unhide HKA) (belowRow (belowRow hup hz13 _) hz14 _)⟩, ?_⟩
          refine Gen.done (K := (kAnd (kNew V3.heap.size BA13 _) (kAnd (kNew V3.heap.size BA14 _) _))) (by kernel_rfl) ⟨⟨(RowIs.other (RowIs.same hg13 _) hne13_14 _), hz13⟩, ⟨⟨(RowIs.same (IsRow.setRow hg14 _ _) _), hz14⟩, kafter (unhide HKA) (belowRow (belowRow hup hz13 _) hz14 _)⟩⟩ (fun WA hKA => ?_) _
          clear okA hup hg13 hz13 hg14 hz14
          have HK := hide hKA
          have HC := ktells hKA
          (try dsimp only at HC)
          clear hKA
          go_wp2_with (first | (go_at_call 17; refine know_at (by (repeat (first | exact kk (unhide HK) | apply kkbox | apply kkdrew | apply kkdrewN | apply kkalloc))) (fun hKa => ?_); (try simp only [World.size_alloc] at hKa); (try simp only [World.size_drew] at hKa); refine (awake_any _).mono ?_; rintro e w1 ⟨rfl, hb1⟩; have HK := hide (kafter hKa hb1); clear hKa hb1; have HC := ktells (unhide HK); (try dsimp only at HC)) | (go_at_call 21; refine know_at (by (repeat (first | exact kk (unhide HK) | apply kkbox | apply kkdrew | apply kkdrewN | apply kkalloc))) (fun hKa => ?_); (try simp only [World.size_alloc] at hKa); (try simp only [World.size_drew] at hKa); refine (refRight_is _ _ _ _ (unhide HT) (by omega) _ (by exact kget hKa (Below.refl _ _))).mono ?_; rintro e w1 ⟨rfl, hb1⟩; have HK := hide (kafter hKa hb1); clear hKa hb1; have HC := ktells (unhide HK); (try dsimp only at HC)) | (go_at_call 31; refine (refIn_any _ _ _ _).mono ?_; rintro e w2 ⟨rfl, rfl⟩) | (go_at_call 38; refine (rightRng_is _ _ _ _).mono ?_; rintro e w2 ⟨rfl, o1, rfl⟩))
          all_goals (go_ret; exact ⟨rfl, kup (unhide HK)⟩)
        | true =>
          cases hs' : rngB sl sh (10000 * mass) with
          | false =>
            have HBD := hide (show boundsR t level mass hl hh sl sh = (((0, 0), (0, 0)), 1) by simp [boundsR, ht, hl', hm, hh', hs'])
            clear ht
            go_enter Try.func8, Try.ntmps8
            go_upto_region 3 with (go_at_call 17; refine know_at (by (repeat (first | exact kk (unhide HK) | apply kkbox | apply kkdrew | apply kkdrewN | apply kkalloc))) (fun hKa => ?_); (try simp only [World.size_alloc] at hKa); (try simp only [World.size_drew] at hKa); refine (awake_any _).mono ?_; rintro e w1 ⟨rfl, hb1⟩; have HK := hide (kafter hKa hb1); clear hKa hb1; have HC := ktells (unhide HK); (try dsimp only at HC))
            refine know_here (by (repeat (first | exact kk (unhide HK) | apply kkbox | apply kkdrew | apply kkdrewN | apply kkalloc))) ?_
            intro V3 hKA
            (try simp only [World.size_alloc] at hKA)
            (try simp only [World.size_drew] at hKA)
            have HKA := hide hKA
            have HCA := ktells hKA
            (try dsimp only at HCA)
            refine Gen.begin_ [⟨13, 11, #[.int .i64 0, .int .i64 0], 71⟩, ⟨14, 12, #[.int .i64 0, .int .i64 0], 71⟩] 16 (by kernel_rfl) hKA (by rfl) ⟨fun x hx => by (simp only [List.mem_cons, List.not_mem_nil, or_false] at hx; rcases hx with rfl | rfl; all_goals exact ⟨_, by rfl, by rfl, by rfl, fun _ _ => by kernel_rfl⟩), by kernel_rfl, fun _ _ _ _ _ => Iff.rfl⟩ (fun okA => ?_)
            clear hKA
            refine Gen.take 0 (v := ?vv37) okA (by simp only [List.getElem?_toArray, List.getElem?_cons_zero]; rfl) (by kernel_rfl) (by kernel_rfl) (by kernel_rfl) (Or.inl ⟨by rfl, ?hh37⟩) ?_
            case hh37 => (intro wg hSw; have hc := ktells hSw; (try dsimp only at hc); go_simp; try with_reducible rfl)
            (try simp only [Act.put, List.setIfInBounds_toArray, List.set_cons_zero, List.set_cons_succ])
            refine Gen.take 2 (v := ?vv38) okA (by simp only [List.getElem?_toArray, List.getElem?_cons_zero, List.getElem?_cons_succ]; rfl) (by kernel_rfl) (by kernel_rfl) (by kernel_rfl) (Or.inl ⟨by rfl, ?hh38⟩) ?_
            case hh38 => (intro wg hSw; have hc := ktells hSw; (try dsimp only at hc); go_simp; try with_reducible rfl)
            (try simp only [Act.put, List.setIfInBounds_toArray, List.set_cons_zero, List.set_cons_succ])
            refine Gen.take 3 (v := ?vv39) okA (by simp only [List.getElem?_toArray, List.getElem?_cons_zero, List.getElem?_cons_succ]; rfl) (by kernel_rfl) (by kernel_rfl) (by kernel_rfl) (Or.inl ⟨by rfl, ?hh39⟩) ?_
            case hh39 => (intro wg hSw; have hc := ktells hSw; (try dsimp only at hc); go_simp; try with_reducible rfl)
            (try simp only [Act.put, List.setIfInBounds_toArray, List.set_cons_zero, List.set_cons_succ])
            refine Gen.take 4 (v := ?vv40) okA (by simp only [List.getElem?_toArray, List.getElem?_cons_zero, List.getElem?_cons_succ]; rfl) (by kernel_rfl) (by kernel_rfl) (by kernel_rfl) (Or.inl ⟨by rfl, ?hh40⟩) ?_
            case hh40 => (intro wg hSw; have hc := ktells hSw; (try dsimp only at hc); go_simp; try with_reducible rfl)
            (try simp only [Act.put, List.setIfInBounds_toArray, List.set_cons_zero, List.set_cons_succ])
            refine Gen.take 6 (v := ?vv41) okA (by simp only [List.getElem?_toArray, List.getElem?_cons_zero, List.getElem?_cons_succ]; rfl) (by kernel_rfl) (by kernel_rfl) (by kernel_rfl) (Or.inl ⟨by rfl, ?hh41⟩) ?_
            case hh41 => (intro wg hSw; have hc := ktells hSw; (try dsimp only at hc); go_simp; try with_reducible rfl)
            (try simp only [Act.put, List.setIfInBounds_toArray, List.set_cons_zero, List.set_cons_succ])
            refine Gen.step inferInstance Gen.size 1 okA (by kernel_rfl) inferInstance (by simp) (fun wg hKg hSg => wpOp_of (by simp only [List.getElem?_toArray, List.getElem?_cons_zero, List.getElem?_cons_succ]; rfl) (by rfl) ?_)
            go_simp
            refine (mkTable_any _ _ _ (by omega) _ (by exact kget hKg (Below.refl _ _))).mono ?_
            rintro e wh ⟨v1, rfl, ⟨A1, c1, rfl, hc1, hr1, -⟩, hb1⟩
            (try dsimp only)
            refine Gen.more (F := kRds eRow A1 t) rfl hKg hb1 hr1 ?_
            clear hKg hSg
            clear hb1
            clear hr1
            refine Gen.step inferInstance Gen.size 5 okA (by kernel_rfl) inferInstance (by simp) (fun wg hKg hSg => wpOp_of (by simp only [List.getElem?_toArray, List.getElem?_cons_zero, List.getElem?_cons_succ]; rfl) (by rfl) ?_)
            go_simp
            refine (mkRng_is _ _ _).mono ?_
            rintro e wh ⟨rfl, o1, o2, rfl⟩
            (try dsimp only)
            refine Gen.stay rfl hKg (by (repeat (first | exact Below.refl _ _ | refine Below.allocs ?_ _ | refine Below.drew ?_ | refine Below.drewNs ?_ _))) ?_
            clear hKg hSg
            refine Gen.step inferInstance Gen.size 7 okA (by kernel_rfl) inferInstance (by simp) (fun wg hKg hSg => wpOp_of (by simp only [List.getElem?_toArray, List.getElem?_cons_zero, List.getElem?_cons_succ]; rfl) (by rfl) ?_)
            go_simp
            refine (mkRng_is _ _ _).mono ?_
            rintro e wh ⟨rfl, o1, o2, rfl⟩
            (try dsimp only)
            refine Gen.stay rfl hKg (by (repeat (first | exact Below.refl _ _ | refine Below.allocs ?_ _ | refine Below.drew ?_ | refine Below.drewNs ?_ _))) ?_
            clear hKg hSg
            refine Gen.step inferInstance Gen.size 8 okA (by kernel_rfl) inferInstance (by simp) (fun wg hKg hSg => wpOp_of (by simp only [List.getElem?_toArray, List.getElem?_cons_zero, List.getElem?_cons_succ]; rfl) (by rfl) ?_)
            go_simp
            refine (bounds_is _ _ _ _ _ _ _ _ _ _ _ _ _ _ (unhide HBD) (by omega) (by omega) _ (by exact kget hKg (Below.refl _ _))).mono ?_
            rintro e wh ⟨rfl, hb1⟩
            (try dsimp only)
            refine Gen.stay rfl hKg hb1 ?_
            clear hKg hSg
            clear hb1
            refine Gen.take 9 (v := ?vv42) okA (by simp only [List.getElem?_toArray, List.getElem?_cons_zero, List.getElem?_cons_succ]; rfl) (by kernel_rfl) (by kernel_rfl) (by kernel_rfl) (Or.inl ⟨by rfl, ?hh42⟩) ?_
            case hh42 => (intro wg hSw; have hc := ktells hSw; (try dsimp only at hc); go_simp; try with_reducible rfl)
            (try simp only [Act.put, List.setIfInBounds_toArray, List.set_cons_zero, List.set_cons_succ])
            refine Gen.take 10 (v := ?vv43) okA (by simp only [List.getElem?_toArray, List.getElem?_cons_zero, List.getElem?_cons_succ]; rfl) (by kernel_rfl) (by kernel_rfl) (by kernel_rfl) (Or.inl ⟨by rfl, ?hh43⟩) ?_
            case hh43 => (intro wg hSw; have hc := ktells hSw; (try dsimp only at hc); go_simp; try with_reducible rfl)
            (try simp only [Act.put, List.setIfInBounds_toArray, List.set_cons_zero, List.set_cons_succ])
            refine Gen.take 11 (v := ?vv44) okA (by simp only [List.getElem?_toArray, List.getElem?_cons_zero, List.getElem?_cons_succ]; rfl) (by kernel_rfl) (by kernel_rfl) (by kernel_rfl) (Or.inl ⟨by rfl, ?hh44⟩) ?_
            case hh44 => (intro wg hSw; have hc := ktells hSw; (try dsimp only at hc); go_simp; try with_reducible rfl)
            (try simp only [Act.put, List.setIfInBounds_toArray, List.set_cons_zero, List.set_cons_succ])
            refine Gen.take 12 (v := ?vv45) okA (by simp only [List.getElem?_toArray, List.getElem?_cons_zero, List.getElem?_cons_succ]; rfl) (by kernel_rfl) (by kernel_rfl) (by kernel_rfl) (Or.inl ⟨by rfl, ?hh45⟩) ?_
            case hh45 => (intro wg hSw; have hc := ktells hSw; (try dsimp only at hc); go_simp; try with_reducible rfl)
            (try simp only [Act.put, List.setIfInBounds_toArray, List.set_cons_zero, List.set_cons_succ])
            refine Gen.finish inferInstance Gen.size okA (by kernel_rfl) inferInstance (by simp) ?_
            simp only [Gen.Fin, NewVar.put]
            (try simp only [Act.put, List.setIfInBounds_toArray, List.set_cons_zero, List.set_cons_succ])
            intro BA13 hnA13 BA14 hnA14 wf hKf hSf
            obtain ⟨wu, rfl, hg13, hg14, hup⟩ := graft2 (fun W => Below V3.heap.size V3 W) hKf.2.1.1 hKf.1.1 hSf.1
            have hz13 := hKf.2.1.2
            have hz14 := hKf.1.2
            have hne13_14 : BA13 ≠ BA14 := fun e => hnA14 (by simp [e])
            have hne14_13 : BA14 ≠ BA13 := fun e => hne13_14 e.symm
            clear hKf hSf
            refine Gen.one 15 (by kernel_rfl) (wpOp_of (by simp only [List.getElem?_toArray, List.getElem?_cons_zero, List.getElem?_cons_succ]; rfl) (by rfl) ?_)
            go_simp
            (try simp only [Act.put, List.setIfInBounds_toArray, List.set_cons_zero, List.set_cons_succ])
            refine ⟨⟨(belowRow (belowRow hup hz13 _) hz14 _), kafter (unhide HKA) (belowRow (belowRow hup hz13 _) hz14 _)⟩, ?_⟩
            refine Gen.one 16 (by kernel_rfl) (wpOp_of (by simp only [List.getElem?_toArray, List.getElem?_cons_zero, List.getElem?_cons_succ]; rfl) (by rfl) ?_)
            go_simp
            (try simp only [Act.put, List.setIfInBounds_toArray, List.set_cons_zero, List.set_cons_succ])
            refine ⟨⟨(belowRow (belowRow hup hz13 _) hz14 _), kafter (unhide HKA) (belowRow (belowRow hup hz13 _) hz14 _)⟩, ?_⟩
            refine Gen.one 17 (by kernel_rfl) (wpOp_of (by simp only [List.getElem?_toArray, List.getElem?_cons_zero, List.getElem?_cons_succ]; rfl) (by rfl) ?_)
            go_simp
            (try simp only [Act.put, List.setIfInBounds_toArray, List.set_cons_zero, List.set_cons_succ])
            refine ⟨⟨(belowRow (belowRow hup hz13 _) hz14 _), kafter (unhide HKA) (belowRow (belowRow hup hz13 _) hz14 _)⟩, ?_⟩
            refine Gen.done (K := (kAnd (kNew V3.heap.size BA13 _) (kAnd (kNew V3.heap.size BA14 _) _))) (by kernel_rfl) ⟨⟨(RowIs.other (RowIs.same hg13 _) hne13_14 _), hz13⟩, ⟨⟨(RowIs.same (IsRow.setRow hg14 _ _) _), hz14⟩, kafter (unhide HKA) (belowRow (belowRow hup hz13 _) hz14 _)⟩⟩ (fun WA hKA => ?_) _
            clear okA hup hg13 hz13 hg14 hz14
            have HK := hide hKA
            have HC := ktells hKA
            (try dsimp only at HC)
            clear hKA
            go_wp2_with (first | (go_at_call 17; refine know_at (by (repeat (first | exact kk (unhide HK) | apply kkbox | apply kkdrew | apply kkdrewN | apply kkalloc))) (fun hKa => ?_); (try simp only [World.size_alloc] at hKa); (try simp only [World.size_drew] at hKa); refine (awake_any _).mono ?_; rintro e w1 ⟨rfl, hb1⟩; have HK := hide (kafter hKa hb1); clear hKa hb1; have HC := ktells (unhide HK); (try dsimp only at HC)) | (go_at_call 21; refine know_at (by (repeat (first | exact kk (unhide HK) | apply kkbox | apply kkdrew | apply kkdrewN | apply kkalloc))) (fun hKa => ?_); (try simp only [World.size_alloc] at hKa); (try simp only [World.size_drew] at hKa); refine (refRight_is _ _ _ _ (unhide HT) (by omega) _ (by exact kget hKa (Below.refl _ _))).mono ?_; rintro e w1 ⟨rfl, hb1⟩; have HK := hide (kafter hKa hb1); clear hKa hb1; have HC := ktells (unhide HK); (try dsimp only at HC)) | (go_at_call 31; refine (refIn_any _ _ _ _).mono ?_; rintro e w2 ⟨rfl, rfl⟩) | (go_at_call 38; refine (rightRng_is _ _ _ _).mono ?_; rintro e w2 ⟨rfl, o1, rfl⟩))
            all_goals (go_ret; exact ⟨rfl, kup (unhide HK)⟩)
          | true =>
            obtain ⟨n1, n2, n3⟩ := rngB_iff.1 hh'
            obtain ⟨n4, n5, n6⟩ := rngB_iff.1 hs'
            obtain ⟨l0, l1⟩ := inB_iff.1 hl'
            obtain ⟨k, rfl⟩ := Int.eq_ofNat_of_zero_le l0
            have hx := rowAt_get (t := t) l0 l1
            rw [Int.toNat_natCast] at hx
            have hrow := tabOk_row ht hx
            have HX := hide hx
            have sb1 : StrB ⟨mass, hl, sl, 0⟩ := ⟨m0, m1, n1, by dsimp only; omega, n4, by dsimp only; omega, Int.le_refl 0, (show (0 : Int) ≤ 1000000000 by decide)⟩
            have sb2 : StrB ⟨mass, hh, sh, 0⟩ := ⟨m0, m1, by dsimp only; omega, n3, by dsimp only; omega, n6, Int.le_refl 0, (show (0 : Int) ≤ 1000000000 by decide)⟩
            have hbd : boundsR t k mass hl hh sl sh = ((((flashOf (rowAt t k) ⟨mass, hl, sl, 0⟩).st.M, (flashOf (rowAt t k) ⟨mass, hh, sh, 0⟩).st.M), ((flashOf (rowAt t k) ⟨mass, hl, sl, 0⟩).scale, (flashOf (rowAt t k) ⟨mass, hh, sh, 0⟩).scale)), 0) := by simp [boundsR, ht, hl', hm, hh', hs']
            have kt : (k : Int) < t.length := by omega
            clear ht hx
            generalize rowAt t k = r at *
            obtain ⟨T, P, L, V, Sx⟩ := r
            obtain ⟨p, hp⟩ : ∃ p, flashOf ⟨T, P, L, V, Sx⟩ ⟨mass, hl, sl, 0⟩ = p := ⟨_, rfl⟩
            obtain ⟨q, hq⟩ : ∃ q, flashOf ⟨T, P, L, V, Sx⟩ ⟨mass, hh, sh, 0⟩ = q := ⟨_, rfl⟩
            rw [hp, hq] at hbd
            have HBD := hide hbd
            have HP := hide hp
            have HQ := hide hq
            have HB := hide (And.intro hrow (And.intro sb1 sb2))
            clear hp hq hbd hrow sb1 sb2
            obtain ⟨⟨p1, p2, p3, p4⟩, ⟨p5, p6, p7, p8⟩, p9, pz⟩ := p
            obtain ⟨⟨q1, q2, q3, q4⟩, ⟨q5, q6, q7, q8⟩, q9, qz⟩ := q
            dsimp only at HBD
            go_enter Try.func8, Try.ntmps8
            go_upto_region 3 with (go_at_call 17; refine know_at (by (repeat (first | exact kk (unhide HK) | apply kkbox | apply kkdrew | apply kkdrewN | apply kkalloc))) (fun hKa => ?_); (try simp only [World.size_alloc] at hKa); (try simp only [World.size_drew] at hKa); refine (awake_any _).mono ?_; rintro e w1 ⟨rfl, hb1⟩; have HK := hide (kafter hKa hb1); clear hKa hb1; have HC := ktells (unhide HK); (try dsimp only at HC))
            refine know_here (by (repeat (first | exact kk (unhide HK) | apply kkbox | apply kkdrew | apply kkdrewN | apply kkalloc))) ?_
            intro V3 hKA
            (try simp only [World.size_alloc] at hKA)
            (try simp only [World.size_drew] at hKA)
            have HKA := hide hKA
            have HCA := ktells hKA
            (try dsimp only at HCA)
            refine Gen.begin_ [⟨13, 11, #[.int .i64 0, .int .i64 0], 71⟩, ⟨14, 12, #[.int .i64 0, .int .i64 0], 71⟩] 16 (by kernel_rfl) hKA (by rfl) ⟨fun x hx => by (simp only [List.mem_cons, List.not_mem_nil, or_false] at hx; rcases hx with rfl | rfl; all_goals exact ⟨_, by rfl, by rfl, by rfl, fun _ _ => by kernel_rfl⟩), by kernel_rfl, fun _ _ _ _ _ => Iff.rfl⟩ (fun okA => ?_)
            clear hKA
            refine Gen.take 0 (v := ?vv46) okA (by simp only [List.getElem?_toArray, List.getElem?_cons_zero]; rfl) (by kernel_rfl) (by kernel_rfl) (by kernel_rfl) (Or.inl ⟨by rfl, ?hh46⟩) ?_
            case hh46 => (intro wg hSw; have hc := ktells hSw; (try dsimp only at hc); go_simp; try with_reducible rfl)
            (try simp only [Act.put, List.setIfInBounds_toArray, List.set_cons_zero, List.set_cons_succ])
            refine Gen.take 2 (v := ?vv47) okA (by simp only [List.getElem?_toArray, List.getElem?_cons_zero, List.getElem?_cons_succ]; rfl) (by kernel_rfl) (by kernel_rfl) (by kernel_rfl) (Or.inl ⟨by rfl, ?hh47⟩) ?_
            case hh47 => (intro wg hSw; have hc := ktells hSw; (try dsimp only at hc); go_simp; try with_reducible rfl)
            (try simp only [Act.put, List.setIfInBounds_toArray, List.set_cons_zero, List.set_cons_succ])
            refine Gen.take 3 (v := ?vv48) okA (by simp only [List.getElem?_toArray, List.getElem?_cons_zero, List.getElem?_cons_succ]; rfl) (by kernel_rfl) (by kernel_rfl) (by kernel_rfl) (Or.inl ⟨by rfl, ?hh48⟩) ?_
            case hh48 => (intro wg hSw; have hc := ktells hSw; (try dsimp only at hc); go_simp; try with_reducible rfl)
            (try simp only [Act.put, List.setIfInBounds_toArray, List.set_cons_zero, List.set_cons_succ])
            refine Gen.take 4 (v := ?vv49) okA (by simp only [List.getElem?_toArray, List.getElem?_cons_zero, List.getElem?_cons_succ]; rfl) (by kernel_rfl) (by kernel_rfl) (by kernel_rfl) (Or.inl ⟨by rfl, ?hh49⟩) ?_
            case hh49 => (intro wg hSw; have hc := ktells hSw; (try dsimp only at hc); go_simp; try with_reducible rfl)
            (try simp only [Act.put, List.setIfInBounds_toArray, List.set_cons_zero, List.set_cons_succ])
            refine Gen.take 6 (v := ?vv50) okA (by simp only [List.getElem?_toArray, List.getElem?_cons_zero, List.getElem?_cons_succ]; rfl) (by kernel_rfl) (by kernel_rfl) (by kernel_rfl) (Or.inl ⟨by rfl, ?hh50⟩) ?_
            case hh50 => (intro wg hSw; have hc := ktells hSw; (try dsimp only at hc); go_simp; try with_reducible rfl)
            (try simp only [Act.put, List.setIfInBounds_toArray, List.set_cons_zero, List.set_cons_succ])
            refine Gen.step inferInstance Gen.size 1 okA (by kernel_rfl) inferInstance (by simp) (fun wg hKg hSg => wpOp_of (by simp only [List.getElem?_toArray, List.getElem?_cons_zero, List.getElem?_cons_succ]; rfl) (by rfl) ?_)
            go_simp
            refine (mkTable_any _ _ _ (by omega) _ (by exact kget hKg (Below.refl _ _))).mono ?_
            rintro e wh ⟨v1, rfl, ⟨A1, c1, rfl, hc1, hr1, -⟩, hb1⟩
            (try dsimp only)
            refine Gen.more (F := kRds eRow A1 t) rfl hKg hb1 hr1 ?_
            clear hKg hSg
            clear hb1
            clear hr1
            refine Gen.step inferInstance Gen.size 5 okA (by kernel_rfl) inferInstance (by simp) (fun wg hKg hSg => wpOp_of (by simp only [List.getElem?_toArray, List.getElem?_cons_zero, List.getElem?_cons_succ]; rfl) (by rfl) ?_)
            go_simp
            refine (mkRng_is _ _ _).mono ?_
            rintro e wh ⟨rfl, o1, o2, rfl⟩
            (try dsimp only)
            refine Gen.stay rfl hKg (by (repeat (first | exact Below.refl _ _ | refine Below.allocs ?_ _ | refine Below.drew ?_ | refine Below.drewNs ?_ _))) ?_
            clear hKg hSg
            refine Gen.step inferInstance Gen.size 7 okA (by kernel_rfl) inferInstance (by simp) (fun wg hKg hSg => wpOp_of (by simp only [List.getElem?_toArray, List.getElem?_cons_zero, List.getElem?_cons_succ]; rfl) (by rfl) ?_)
            go_simp
            refine (mkRng_is _ _ _).mono ?_
            rintro e wh ⟨rfl, o1, o2, rfl⟩
            (try dsimp only)
            refine Gen.stay rfl hKg (by (repeat (first | exact Below.refl _ _ | refine Below.allocs ?_ _ | refine Below.drew ?_ | refine Below.drewNs ?_ _))) ?_
            clear hKg hSg
            refine Gen.step inferInstance Gen.size 8 okA (by kernel_rfl) inferInstance (by simp) (fun wg hKg hSg => wpOp_of (by simp only [List.getElem?_toArray, List.getElem?_cons_zero, List.getElem?_cons_succ]; rfl) (by rfl) ?_)
            go_simp
            refine (bounds_is _ _ _ _ _ _ _ _ _ _ _ _ _ _ (unhide HBD) (by omega) (by omega) _ (by exact kget hKg (Below.refl _ _))).mono ?_
            rintro e wh ⟨rfl, hb1⟩
            (try dsimp only)
            refine Gen.stay rfl hKg hb1 ?_
            clear hKg hSg
            clear hb1
            refine Gen.take 9 (v := ?vv51) okA (by simp only [List.getElem?_toArray, List.getElem?_cons_zero, List.getElem?_cons_succ]; rfl) (by kernel_rfl) (by kernel_rfl) (by kernel_rfl) (Or.inl ⟨by rfl, ?hh51⟩) ?_
            case hh51 => (intro wg hSw; have hc := ktells hSw; (try dsimp only at hc); go_simp; try with_reducible rfl)
            (try simp only [Act.put, List.setIfInBounds_toArray, List.set_cons_zero, List.set_cons_succ])
            refine Gen.take 10 (v := ?vv52) okA (by simp only [List.getElem?_toArray, List.getElem?_cons_zero, List.getElem?_cons_succ]; rfl) (by kernel_rfl) (by kernel_rfl) (by kernel_rfl) (Or.inl ⟨by rfl, ?hh52⟩) ?_
            case hh52 => (intro wg hSw; have hc := ktells hSw; (try dsimp only at hc); go_simp; try with_reducible rfl)
            (try simp only [Act.put, List.setIfInBounds_toArray, List.set_cons_zero, List.set_cons_succ])
            refine Gen.take 11 (v := ?vv53) okA (by simp only [List.getElem?_toArray, List.getElem?_cons_zero, List.getElem?_cons_succ]; rfl) (by kernel_rfl) (by kernel_rfl) (by kernel_rfl) (Or.inl ⟨by rfl, ?hh53⟩) ?_
            case hh53 => (intro wg hSw; have hc := ktells hSw; (try dsimp only at hc); go_simp; try with_reducible rfl)
            (try simp only [Act.put, List.setIfInBounds_toArray, List.set_cons_zero, List.set_cons_succ])
            refine Gen.take 12 (v := ?vv54) okA (by simp only [List.getElem?_toArray, List.getElem?_cons_zero, List.getElem?_cons_succ]; rfl) (by kernel_rfl) (by kernel_rfl) (by kernel_rfl) (Or.inl ⟨by rfl, ?hh54⟩) ?_
            case hh54 => (intro wg hSw; have hc := ktells hSw; (try dsimp only at hc); go_simp; try with_reducible rfl)
            (try simp only [Act.put, List.setIfInBounds_toArray, List.set_cons_zero, List.set_cons_succ])
            refine Gen.finish inferInstance Gen.size okA (by kernel_rfl) inferInstance (by simp) ?_
            simp only [Gen.Fin, NewVar.put]
            (try simp only [Act.put, List.setIfInBounds_toArray, List.set_cons_zero, List.set_cons_succ])
            intro BA13 hnA13 BA14 hnA14 wf hKf hSf
            obtain ⟨wu, rfl, hg13, hg14, hup⟩ := graft2 (fun W => Below V3.heap.size V3 W) hKf.2.1.1 hKf.1.1 hSf.1
            have hz13 := hKf.2.1.2
            have hz14 := hKf.1.2
            have hne13_14 : BA13 ≠ BA14 := fun e => hnA14 (by simp [e])
            have hne14_13 : BA14 ≠ BA13 := fun e => hne13_14 e.symm
            clear hKf hSf
            refine Gen.one 15 (by kernel_rfl) (wpOp_of (by simp only [List.getElem?_toArray, List.getElem?_cons_zero, List.getElem?_cons_succ]; rfl) (by rfl) ?_)
            go_simp
            (try simp only [Act.put, List.setIfInBounds_toArray, List.set_cons_zero, List.set_cons_succ])
            refine ⟨⟨(belowRow (belowRow hup hz13 _) hz14 _), kafter (unhide HKA) (belowRow (belowRow hup hz13 _) hz14 _)⟩, ?_⟩
            refine Gen.one 16 (by kernel_rfl) (wpOp_of (by simp only [List.getElem?_toArray, List.getElem?_cons_zero, List.getElem?_cons_succ]; rfl) (by rfl) ?_)
            go_simp
            (try simp only [Act.put, List.setIfInBounds_toArray, List.set_cons_zero, List.set_cons_succ])
            refine ⟨⟨(belowRow (belowRow hup hz13 _) hz14 _), kafter (unhide HKA) (belowRow (belowRow hup hz13 _) hz14 _)⟩, ?_⟩
            refine Gen.one 17 (by kernel_rfl) (wpOp_of (by simp only [List.getElem?_toArray, List.getElem?_cons_zero, List.getElem?_cons_succ]; rfl) (by rfl) ?_)
            go_simp
            (try simp only [Act.put, List.setIfInBounds_toArray, List.set_cons_zero, List.set_cons_succ])
            refine ⟨⟨(belowRow (belowRow hup hz13 _) hz14 _), kafter (unhide HKA) (belowRow (belowRow hup hz13 _) hz14 _)⟩, ?_⟩
            refine Gen.done (K := (kAnd (kNew V3.heap.size BA13 _) (kAnd (kNew V3.heap.size BA14 _) _))) (by kernel_rfl) ⟨⟨(RowIs.other (RowIs.same hg13 _) hne13_14 _), hz13⟩, ⟨⟨(RowIs.same (IsRow.setRow hg14 _ _) _), hz14⟩, kafter (unhide HKA) (belowRow (belowRow hup hz13 _) hz14 _)⟩⟩ (fun WA hKA => ?_) _
            clear okA hup hg13 hz13 hg14 hz14
            have HK := hide hKA
            have HC := ktells hKA
            (try dsimp only at HC)
            clear hKA
            go_upto_region 13 with (first | (go_at_call 17; refine know_at (by (repeat (first | exact kk (unhide HK) | apply kkbox | apply kkdrew | apply kkdrewN | apply kkalloc))) (fun hKa => ?_); (try simp only [World.size_alloc] at hKa); (try simp only [World.size_drew] at hKa); refine (awake_any _).mono ?_; rintro e w1 ⟨rfl, hb1⟩; have HK := hide (kafter hKa hb1); clear hKa hb1; have HC := ktells (unhide HK); (try dsimp only at HC)) | (go_at_call 21; refine know_at (by (repeat (first | exact kk (unhide HK) | apply kkbox | apply kkdrew | apply kkdrewN | apply kkalloc))) (fun hKa => ?_); (try simp only [World.size_alloc] at hKa); (try simp only [World.size_drew] at hKa); refine (refRight_is _ _ _ _ (unhide HT) (by omega) _ (by exact kget hKa (Below.refl _ _))).mono ?_; rintro e w1 ⟨rfl, hb1⟩; have HK := hide (kafter hKa hb1); clear hKa hb1; have HC := ktells (unhide HK); (try dsimp only at HC)) | (go_at_call 31; refine (refIn_any _ _ _ _).mono ?_; rintro e w2 ⟨rfl, rfl⟩) | (go_at_call 38; refine (rightRng_is _ _ _ _).mono ?_; rintro e w2 ⟨rfl, o1, rfl⟩))
            refine know_here (by (repeat (first | exact kk (unhide HK) | apply kkbox | apply kkdrew | apply kkdrewN | apply kkalloc))) ?_
            intro Wy hKy
            obtain ⟨b, o, rfl, hb, d0, d1, d2, d3, d4⟩ := rdsRow (kbear (F := kRds eRow A t) hKy) (unhide HX)
            dsimp only at d0 d1 d2 d3 d4
            have HK := hide (p := kAnd (kC b (o + k * 5) (.int .i64 T)) (kAnd (kC b (o + k * 5 + 1) (.int .i64 P)) (kAnd (kC b (o + k * 5 + 2) (.int .i64 L)) (kAnd (kC b (o + k * 5 + 3) (.int .i64 V)) (kAnd (kC b (o + k * 5 + 4) (.int .i64 Sx)) _)))) Wy) ⟨⟨d0, hb⟩, ⟨d1, hb⟩, ⟨d2, hb⟩, ⟨d3, hb⟩, ⟨d4, hb⟩, hKy⟩
            clear hKy d0 d1 d2 d3 d4 hb
            refine know_here (by (repeat (first | exact kk (unhide HK) | apply kkbox | apply kkdrew | apply kkdrewN | apply kkalloc))) ?_
            intro V13 hKB
            (try simp only [World.size_alloc] at hKB)
            (try simp only [World.size_drew] at hKB)
            have HKB := hide hKB
            have HCB := ktells hKB
            (try dsimp only at HCB)
            refine Gen.begin_ [⟨11, 15, #[.int .i64 0, .int .i64 0], 70⟩, ⟨12, 16, #[.int .i64 0, .int .i64 0], 70⟩] 13 (by kernel_rfl) hKB (by rfl) ⟨fun x hx => by (simp only [List.mem_cons, List.not_mem_nil, or_false] at hx; rcases hx with rfl | rfl; all_goals exact ⟨_, by rfl, by rfl, by rfl, fun _ _ => by kernel_rfl⟩), by kernel_rfl, fun _ _ _ _ _ => Iff.rfl⟩ (fun okB => ?_)
            clear hKB
            refine Gen.take 0 (v := ?vv55) okB (by simp only [List.getElem?_toArray, List.getElem?_cons_zero]; rfl) (by kernel_rfl) (by kernel_rfl) (by kernel_rfl) (Or.inl ⟨by rfl, ?hh55⟩) ?_
            case hh55 => (intro wg hSw; have hc := ktells hSw; (try dsimp only at hc); go_simp; try with_reducible rfl)
            (try simp only [Act.put, List.setIfInBounds_toArray, List.set_cons_zero, List.set_cons_succ])
            refine Gen.take 1 (v := ?vv56) okB (by simp only [List.getElem?_toArray, List.getElem?_cons_zero, List.getElem?_cons_succ]; rfl) (by kernel_rfl) (by kernel_rfl) (by kernel_rfl) (Or.inl ⟨by rfl, ?hh56⟩) ?_
            case hh56 => (intro wg hSw; have hc := ktells hSw; (try dsimp only at hc); go_simp; try with_reducible rfl)
            (try simp only [Act.put, List.setIfInBounds_toArray, List.set_cons_zero, List.set_cons_succ])
            refine Gen.take 2 (v := ?vv57) okB (by simp only [List.getElem?_toArray, List.getElem?_cons_zero, List.getElem?_cons_succ]; rfl) (by kernel_rfl) (by kernel_rfl) (by kernel_rfl) (Or.inl ⟨by rfl, ?hh57⟩) ?_
            case hh57 => (intro wg hSw; have hc := ktells hSw; (try dsimp only at hc); go_simp; try with_reducible rfl)
            (try simp only [Act.put, List.setIfInBounds_toArray, List.set_cons_zero, List.set_cons_succ])
            refine Gen.take 3 (v := ?vv58) okB (by simp only [List.getElem?_toArray, List.getElem?_cons_zero, List.getElem?_cons_succ]; rfl) (by kernel_rfl) (by kernel_rfl) (by kernel_rfl) (Or.inl ⟨by rfl, ?hh58⟩) ?_
            case hh58 => (intro wg hSw; have hc := ktells hSw; (try dsimp only at hc); go_simp; try with_reducible rfl)
            (try simp only [Act.put, List.setIfInBounds_toArray, List.set_cons_zero, List.set_cons_succ])
            refine Gen.take 4 (v := ?vv59) okB (by simp only [List.getElem?_toArray, List.getElem?_cons_zero, List.getElem?_cons_succ]; rfl) (by kernel_rfl) (by kernel_rfl) (by kernel_rfl) (Or.inl ⟨by rfl, ?hh59⟩) ?_
            case hh59 => (intro wg hSw; have hc := ktells hSw; (try dsimp only at hc); go_simp; try with_reducible rfl)
            (try simp only [Act.put, List.setIfInBounds_toArray, List.set_cons_zero, List.set_cons_succ])
            refine Gen.take 5 (v := ?vv60) okB (by simp only [List.getElem?_toArray, List.getElem?_cons_zero, List.getElem?_cons_succ]; rfl) (by kernel_rfl) (by kernel_rfl) (by kernel_rfl) (Or.inl ⟨by rfl, ?hh60⟩) ?_
            case hh60 => (intro wg hSw; have hc := ktells hSw; (try dsimp only at hc); go_simp; try with_reducible rfl)
            (try simp only [Act.put, List.setIfInBounds_toArray, List.set_cons_zero, List.set_cons_succ])
            refine Gen.take 6 (v := ?vv61) okB (by simp only [List.getElem?_toArray, List.getElem?_cons_zero, List.getElem?_cons_succ]; rfl) (by kernel_rfl) (by kernel_rfl) (by kernel_rfl) (Or.inl ⟨by rfl, ?hh61⟩) ?_
            case hh61 => (intro wg hSw; have hc := ktells hSw; (try dsimp only at hc); go_simp; try with_reducible rfl)
            (try simp only [Act.put, List.setIfInBounds_toArray, List.set_cons_zero, List.set_cons_succ])
            refine Gen.step inferInstance Gen.size 7 okB (by kernel_rfl) inferInstance (by simp) (fun wg hKg hSg => wpOp_of (by simp only [List.getElem?_toArray, List.getElem?_cons_zero, List.getElem?_cons_succ]; rfl) (by rfl) ?_)
            go_simp
            refine (refBounds_is _ _ _ _ _ _ _ _ _ _ _ _ (unhide HP) (unhide HQ) (unhide HB).1 (unhide HB).2.1 (unhide HB).2.2 _).mono ?_
            rintro e wh ⟨rfl, hb1⟩
            (try dsimp only)
            refine Gen.stay rfl hKg hb1 ?_
            clear hKg hSg
            clear hb1
            refine Gen.take 8 (v := ?vv62) okB (by simp only [List.getElem?_toArray, List.getElem?_cons_zero, List.getElem?_cons_succ]; rfl) (by kernel_rfl) (by kernel_rfl) (by kernel_rfl) (Or.inl ⟨by rfl, ?hh62⟩) ?_
            case hh62 => (intro wg hSw; have hc := ktells hSw; (try dsimp only at hc); go_simp; try with_reducible rfl)
            (try simp only [Act.put, List.setIfInBounds_toArray, List.set_cons_zero, List.set_cons_succ])
            refine Gen.take 9 (v := ?vv63) okB (by simp only [List.getElem?_toArray, List.getElem?_cons_zero, List.getElem?_cons_succ]; rfl) (by kernel_rfl) (by kernel_rfl) (by kernel_rfl) (Or.inl ⟨by rfl, ?hh63⟩) ?_
            case hh63 => (intro wg hSw; have hc := ktells hSw; (try dsimp only at hc); go_simp; try with_reducible rfl)
            (try simp only [Act.put, List.setIfInBounds_toArray, List.set_cons_zero, List.set_cons_succ])
            refine Gen.take 10 (v := ?vv64) okB (by simp only [List.getElem?_toArray, List.getElem?_cons_zero, List.getElem?_cons_succ]; rfl) (by kernel_rfl) (by kernel_rfl) (by kernel_rfl) (Or.inl ⟨by rfl, ?hh64⟩) ?_
            case hh64 => (intro wg hSw; have hc := ktells hSw; (try dsimp only at hc); go_simp; try with_reducible rfl)
            (try simp only [Act.put, List.setIfInBounds_toArray, List.set_cons_zero, List.set_cons_succ])
            refine Gen.finish inferInstance Gen.size okB (by kernel_rfl) inferInstance (by simp) ?_
            simp only [Gen.Fin, NewVar.put]
            (try simp only [Act.put, List.setIfInBounds_toArray, List.set_cons_zero, List.set_cons_succ])
            intro BB11 hnB11 BB12 hnB12 wf hKf hSf
            obtain ⟨wu, rfl, hg11, hg12, hup⟩ := graft2 (fun W => Below V13.heap.size V13 W) hKf.2.1.1 hKf.1.1 hSf.1
            have hz11 := hKf.2.1.2
            have hz12 := hKf.1.2
            have hne11_12 : BB11 ≠ BB12 := fun e => hnB12 (by simp [e])
            have hne12_11 : BB12 ≠ BB11 := fun e => hne11_12 e.symm
            clear hKf hSf
            refine Gen.one 13 (by kernel_rfl) (wpOp_of (by simp only [List.getElem?_toArray, List.getElem?_cons_zero, List.getElem?_cons_succ]; rfl) (by rfl) ?_)
            go_simp
            (try simp only [Act.put, List.setIfInBounds_toArray, List.set_cons_zero, List.set_cons_succ])
            refine ⟨⟨(belowRow (belowRow hup hz11 _) hz12 _), kafter (unhide HKB) (belowRow (belowRow hup hz11 _) hz12 _)⟩, ?_⟩
            refine Gen.one 14 (by kernel_rfl) (wpOp_of (by simp only [List.getElem?_toArray, List.getElem?_cons_zero, List.getElem?_cons_succ]; rfl) (by rfl) ?_)
            go_simp
            (try simp only [Act.put, List.setIfInBounds_toArray, List.set_cons_zero, List.set_cons_succ])
            refine ⟨⟨(belowRow (belowRow hup hz11 _) hz12 _), kafter (unhide HKB) (belowRow (belowRow hup hz11 _) hz12 _)⟩, ?_⟩
            refine Gen.done (K := (kAnd (kNew V13.heap.size BB11 _) (kAnd (kNew V13.heap.size BB12 _) _))) (by kernel_rfl) ⟨⟨(RowIs.other (RowIs.same hg11 _) hne11_12 _), hz11⟩, ⟨⟨(RowIs.same (IsRow.setRow hg12 _ _) _), hz12⟩, kafter (unhide HKB) (belowRow (belowRow hup hz11 _) hz12 _)⟩⟩ (fun WB hKB => ?_) _
            clear okB hup hg11 hz11 hg12 hz12
            have HK := hide hKB
            have HC := ktells hKB
            (try dsimp only at HC)
            clear hKB
            go_wp2_with fail
            refine know_here (by (repeat (first | exact kk (unhide HK) | apply kkbox | apply kkdrew | apply kkdrewN | apply kkalloc))) ?_
            intro V14 hKC
            (try simp only [World.size_alloc] at hKC)
            (try simp only [World.size_drew] at hKC)
            have HKC := hide hKC
            have HCC := ktells hKC
            (try dsimp only at HCC)
            refine Gen.begin_ [] 18 (by kernel_rfl) hKC (by rfl) ⟨fun x hx => absurd hx (by simp), by kernel_rfl, fun _ _ _ _ _ => Iff.rfl⟩ (fun okC => ?_)
            clear hKC
            refine Gen.take 0 (v := ?vv65) okC (by simp only [List.getElem?_toArray, List.getElem?_cons_zero]; rfl) (by kernel_rfl) (by kernel_rfl) (by kernel_rfl) (Or.inl ⟨by rfl, ?hh65⟩) ?_
            case hh65 => (intro wg hSw; have hc := ktells hSw; (try dsimp only at hc); go_simp; try with_reducible rfl)
            (try simp only [Act.put, List.setIfInBounds_toArray, List.set_cons_zero, List.set_cons_succ])
            refine Gen.take 1 (v := ?vv66) okC (by simp only [List.getElem?_toArray, List.getElem?_cons_zero, List.getElem?_cons_succ]; rfl) (by kernel_rfl) (by kernel_rfl) (by kernel_rfl) (Or.inl ⟨by rfl, ?hh66⟩) ?_
            case hh66 => (intro wg hSw; have hc := ktells hSw; (try dsimp only at hc); go_simp; try with_reducible rfl)
            (try simp only [Act.put, List.setIfInBounds_toArray, List.set_cons_zero, List.set_cons_succ])
            refine Gen.take 2 (v := ?vv67) okC (by simp only [List.getElem?_toArray, List.getElem?_cons_zero, List.getElem?_cons_succ]; rfl) (by kernel_rfl) (by kernel_rfl) (by kernel_rfl) (Or.inl ⟨by rfl, ?hh67⟩) ?_
            case hh67 => (intro wg hSw; have hc := ktells hSw; (try dsimp only at hc); go_simp; try with_reducible rfl)
            (try simp only [Act.put, List.setIfInBounds_toArray, List.set_cons_zero, List.set_cons_succ])
            refine Gen.take 3 (v := ?vv68) okC (by simp only [List.getElem?_toArray, List.getElem?_cons_zero, List.getElem?_cons_succ]; rfl) (by kernel_rfl) (by kernel_rfl) (by kernel_rfl) (Or.inl ⟨by rfl, ?hh68⟩) ?_
            case hh68 => (intro wg hSw; have hc := ktells hSw; (try dsimp only at hc); go_simp; try with_reducible rfl)
            (try simp only [Act.put, List.setIfInBounds_toArray, List.set_cons_zero, List.set_cons_succ])
            refine Gen.take 4 (v := ?vv69) okC (by simp only [List.getElem?_toArray, List.getElem?_cons_zero, List.getElem?_cons_succ]; rfl) (by kernel_rfl) (by kernel_rfl) (by kernel_rfl) (Or.inl ⟨by rfl, ?hh69⟩) ?_
            case hh69 => (intro wg hSw; have hc := ktells hSw; (try dsimp only at hc); go_simp; try with_reducible rfl)
            (try simp only [Act.put, List.setIfInBounds_toArray, List.set_cons_zero, List.set_cons_succ])
            refine Gen.step inferInstance Gen.size 5 okC (by kernel_rfl) inferInstance (by simp) (fun wg hKg hSg => wpOp_of (by simp only [List.getElem?_toArray, List.getElem?_cons_zero, List.getElem?_cons_succ]; rfl) (by rfl) ?_)
            go_simp
            refine (mkRng_is _ _ _).mono ?_
            rintro e wh ⟨rfl, o1, o2, rfl⟩
            (try dsimp only)
            refine Gen.stay rfl hKg (by (repeat (first | exact Below.refl _ _ | refine Below.allocs ?_ _ | refine Below.drew ?_ | refine Below.drewNs ?_ _))) ?_
            clear hKg hSg
            refine Gen.take 6 (v := ?vv70) okC (by simp only [List.getElem?_toArray, List.getElem?_cons_zero, List.getElem?_cons_succ]; rfl) (by kernel_rfl) (by kernel_rfl) (by kernel_rfl) (Or.inl ⟨by rfl, ?hh70⟩) ?_
            case hh70 => (intro wg hSw; have hc := ktells hSw; (try dsimp only at hc); go_simp; try with_reducible rfl)
            (try simp only [Act.put, List.setIfInBounds_toArray, List.set_cons_zero, List.set_cons_succ])
            refine Gen.take 7 (v := ?vv71) okC (by simp only [List.getElem?_toArray, List.getElem?_cons_zero, List.getElem?_cons_succ]; rfl) (by kernel_rfl) (by kernel_rfl) (by kernel_rfl) (Or.inl ⟨by rfl, ?hh71⟩) ?_
            case hh71 => (intro wg hSw; have hc := ktells hSw; (try dsimp only at hc); go_simp; try with_reducible rfl)
            (try simp only [Act.put, List.setIfInBounds_toArray, List.set_cons_zero, List.set_cons_succ])
            refine Gen.take 8 (v := ?vv72) okC (by simp only [List.getElem?_toArray, List.getElem?_cons_zero, List.getElem?_cons_succ]; rfl) (by kernel_rfl) (by kernel_rfl) (by kernel_rfl) (Or.inl ⟨by rfl, ?hh72⟩) ?_
            case hh72 => (intro wg hSw; have hc := ktells hSw; (try dsimp only at hc); go_simp; try with_reducible rfl)
            (try simp only [Act.put, List.setIfInBounds_toArray, List.set_cons_zero, List.set_cons_succ])
            refine Gen.take 9 (v := ?vv73) okC (by simp only [List.getElem?_toArray, List.getElem?_cons_zero, List.getElem?_cons_succ]; rfl) (by kernel_rfl) (by kernel_rfl) (by kernel_rfl) (Or.inl ⟨by rfl, ?hh73⟩) ?_
            case hh73 => (intro wg hSw; have hc := ktells hSw; (try dsimp only at hc); go_simp; try with_reducible rfl)
            (try simp only [Act.put, List.setIfInBounds_toArray, List.set_cons_zero, List.set_cons_succ])
            refine Gen.take 10 (v := ?vv74) okC (by simp only [List.getElem?_toArray, List.getElem?_cons_zero, List.getElem?_cons_succ]; rfl) (by kernel_rfl) (by kernel_rfl) (by kernel_rfl) (Or.inl ⟨by rfl, ?hh74⟩) ?_
            case hh74 => (intro wg hSw; have hc := ktells hSw; (try dsimp only at hc); go_simp; try with_reducible rfl)
            (try simp only [Act.put, List.setIfInBounds_toArray, List.set_cons_zero, List.set_cons_succ])
            refine Gen.step inferInstance Gen.size 11 okC (by kernel_rfl) inferInstance (by simp) (fun wg hKg hSg => wpOp_of (by simp only [List.getElem?_toArray, List.getElem?_cons_zero, List.getElem?_cons_succ]; rfl) (by rfl) ?_)
            go_simp
            refine (mkRng_is _ _ _).mono ?_
            rintro e wh ⟨rfl, o1, o2, rfl⟩
            (try dsimp only)
            refine Gen.stay rfl hKg (by (repeat (first | exact Below.refl _ _ | refine Below.allocs ?_ _ | refine Below.drew ?_ | refine Below.drewNs ?_ _))) ?_
            clear hKg hSg
            refine Gen.take 12 (v := ?vv75) okC (by simp only [List.getElem?_toArray, List.getElem?_cons_zero, List.getElem?_cons_succ]; rfl) (by kernel_rfl) (by kernel_rfl) (by kernel_rfl) (Or.inl ⟨by rfl, ?hh75⟩) ?_
            case hh75 => (intro wg hSw; have hc := ktells hSw; (try dsimp only at hc); go_simp; try with_reducible rfl)
            (try simp only [Act.put, List.setIfInBounds_toArray, List.set_cons_zero, List.set_cons_succ])
            refine Gen.take 13 (v := ?vv76) okC (by simp only [List.getElem?_toArray, List.getElem?_cons_zero, List.getElem?_cons_succ]; rfl) (by kernel_rfl) (by kernel_rfl) (by kernel_rfl) (Or.inl ⟨by rfl, ?hh76⟩) ?_
            case hh76 => (intro wg hSw; have hc := ktells hSw; (try dsimp only at hc); go_simp; try with_reducible rfl)
            (try simp only [Act.put, List.setIfInBounds_toArray, List.set_cons_zero, List.set_cons_succ])
            refine Gen.take 14 (v := ?vv77) okC (by simp only [List.getElem?_toArray, List.getElem?_cons_zero, List.getElem?_cons_succ]; rfl) (by kernel_rfl) (by kernel_rfl) (by kernel_rfl) (Or.inl ⟨by rfl, ?hh77⟩) ?_
            case hh77 => (intro wg hSw; have hc := ktells hSw; (try dsimp only at hc); go_simp; try with_reducible rfl)
            (try simp only [Act.put, List.setIfInBounds_toArray, List.set_cons_zero, List.set_cons_succ])
            refine Gen.step inferInstance Gen.size 15 okC (by kernel_rfl) inferInstance (by simp) (fun wg hKg hSg => wpOp_of (by simp only [List.getElem?_toArray, List.getElem?_cons_zero, List.getElem?_cons_succ]; rfl) (by rfl) ?_)
            go_simp
            refine (awake_any _).mono ?_
            rintro e wh ⟨rfl, hb1⟩
            (try dsimp only)
            refine Gen.stay rfl hKg hb1 ?_
            clear hKg hSg
            clear hb1
            refine Gen.take 16 (v := ?vv78) okC (by simp only [List.getElem?_toArray, List.getElem?_cons_zero, List.getElem?_cons_succ]; rfl) (by kernel_rfl) (by kernel_rfl) (by kernel_rfl) (Or.inl ⟨by rfl, ?hh78⟩) ?_
            case hh78 => (intro wg hSw; have hc := ktells hSw; (try dsimp only at hc); go_simp; try with_reducible rfl)
            (try simp only [Act.put, List.setIfInBounds_toArray, List.set_cons_zero, List.set_cons_succ])
            refine Gen.finish inferInstance Gen.size okC (by kernel_rfl) inferInstance (by simp) ?_
            simp only [Gen.Fin]
            intro  wf hKf hSf
            have hup := hSf.1
            clear hKf hSf
            refine Gen.one 17 (by kernel_rfl) (wpOp_of (by simp only [List.getElem?_toArray, List.getElem?_cons_zero, List.getElem?_cons_succ]; rfl) (by rfl) ?_)
            go_simp
            (try simp only [Act.put, List.setIfInBounds_toArray, List.set_cons_zero, List.set_cons_succ])
            refine ⟨⟨hup, kafter (unhide HKC) hup⟩, ?_⟩
            refine Gen.done (by kernel_rfl) (kafter (unhide HKC) hup) (fun WC hKC => ?_) _
            clear okC hup 
            have HK := hide hKC
            have HC := ktells hKC
            (try dsimp only at HC)
            clear hKC
            go_wp2_with fail
            all_goals (go_ret; exact ⟨rfl, kup (unhide HK)⟩)
end Go.Proofs.Ytenpbiineblcjaa
