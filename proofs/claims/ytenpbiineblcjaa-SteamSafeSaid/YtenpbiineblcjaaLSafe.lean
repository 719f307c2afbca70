/-
  The walk of SteamSafe: it returns true for every table and all streams, and leaves what lay as it lay.
-/
import Derived.Test.YtenpbiineblcjaaLMore
import Derived.Test.YtenpbiineblcjaaLDeepest
import Derived.Test.YtenpbiineblcjaaKnowC
namespace Go.Proofs.Ytenpbiineblcjaa
open Go.RowKit Go.Shelf

theorem deepFrom_spec (t : List RowT) (l : List StrT) : ∀ n, deepFrom t l n ≤ n ∧ (∀ j, deepFrom t l n ≤ j → j < n → safeAt t l j = true) ∧ (0 < deepFrom t l n → safeAt t l (deepFrom t l n - 1) = false)
  | 0 => ⟨Nat.le_refl _, fun j _ h => absurd h (Nat.not_lt_zero _), fun h => absurd h (Nat.lt_irrefl _)⟩
  | n + 1 => by
    obtain ⟨h1, h2, h3⟩ := deepFrom_spec t l n
    cases hs : safeAt t l n with
    | true =>
      have e : deepFrom t l (n + 1) = deepFrom t l n := by
        show (if safeAt t l n then deepFrom t l n else n + 1) = _
        rw [hs]; rfl
      rw [e]
      refine ⟨by omega, fun j hj hjn => ?_, h3⟩
      by_cases ej : j = n
      · rw [ej]; exact hs
      · exact h2 j hj (by omega)
    | false =>
      have e : deepFrom t l (n + 1) = n + 1 := by
        show (if safeAt t l n then deepFrom t l n else n + 1) = _
        rw [hs]; rfl
      rw [e]
      exact ⟨Nat.le_refl _, fun j hj hjn => by omega, fun _ => hs⟩

theorem safe_scale {t : List RowT} {l : List StrT} {k q : Nat} {x : StrT} (h : safeAt t l k = true) (hx : l[q]? = some x) : (flashOf (rowAt t k) x).scale = 0 := by
  have := List.all_eq_true.1 h x (List.mem_of_getElem? hx)
  simpa using this
theorem unsafe_scale {t : List RowT} {l : List StrT} {k : Nat} (hr : RowB (rowAt t k)) (hl : ∀ x ∈ l, StrB x) (h : safeAt t l k = false) : ∃ (q : Nat) (x : StrT), l[q]? = some x ∧ 0 < (flashOf (rowAt t k) x).scale := by
  have h1 : ¬ l.all (fun s => decide ((flashOf (rowAt t k) s).scale = 0)) = true := by
    have h2 : l.all (fun s => decide ((flashOf (rowAt t k) s).scale = 0)) = false := h
    rw [h2]; simp
  rw [List.all_eq_true] at h1
  obtain ⟨x, hx⟩ := Classical.not_forall.1 h1
  obtain ⟨hm, hz⟩ := Classical.not_imp.1 hx
  obtain ⟨q, hq, rfl⟩ := List.getElem_of_mem hm
  refine ⟨q, _, List.getElem?_eq_getElem hq, ?_⟩
  have h3 := (flash_scale hr (hl _ hm)).1
  simp at hz
  omega


set_option maxRecDepth 100000 in
set_option maxHeartbeats 6400000 in
theorem lawSafe_any (A : Option Addr) (c : Nat) (t : List RowT) (A' : Option Addr) (c' : Nat) (l : List StrT) (hn : t.length ≤ 9223372036854775807) (hn' : l.length ≤ 9223372036854775807) (w : World) (hr : Rds eRow w w.heap.size A t) (hr' : Rds eStr w w.heap.size A' l) :
    Calls Try.prog 5 #[.slice A t.length c, .slice A' l.length c'] w fun e w' => e = .returned (.bool true) ∧ Below w.heap.size w w' := by
  have HK : Hid ((kAnd (kRds eRow A t) (kAnd (kRds eStr A' l) (kUp w))) w) := hide ⟨hr, hr', Below.refl _ _⟩
  clear hr hr'
  cases ht : tabOk t with
  | false =>
    have HT := hide ht
    clear ht
    go_enter Try.func5, Try.ntmps5
    go_wp2_with (first | (go_at_call 17; refine know_at (by (repeat (first | exact kk (unhide HK) | apply kkbox | apply kkdrew | apply kkdrewN | apply kkalloc))) (fun hKa => ?_); (try simp only [World.size_alloc] at hKa); (try simp only [World.size_drew] at hKa); refine (awake_any _).mono ?_; rintro e w1 ⟨rfl, hb1⟩; have HK := hide (kafter hKa hb1); clear hKa hb1; have HC := ktells (unhide HK); (try dsimp only at HC)) | (go_at_call 21; refine know_at (by (repeat (first | exact kk (unhide HK) | apply kkbox | apply kkdrew | apply kkdrewN | apply kkalloc))) (fun hKa => ?_); (try simp only [World.size_alloc] at hKa); (try simp only [World.size_drew] at hKa); refine (refRight_is _ _ _ _ (unhide HT) (by omega) _ (by exact kget hKa (Below.refl _ _))).mono ?_; rintro e w1 ⟨rfl, hb1⟩; have HK := hide (kafter hKa hb1); clear hKa hb1; have HC := ktells (unhide HK); (try dsimp only at HC)))
    all_goals (go_ret; exact ⟨rfl, kup (unhide HK)⟩)
  | true =>
    have HT := hide ht
    by_cases hlen : l.length < 1 ∨ 40 < l.length
    · clear ht
      go_enter Try.func5, Try.ntmps5
      go_wp2_with (first | (go_at_call 17; refine know_at (by (repeat (first | exact kk (unhide HK) | apply kkbox | apply kkdrew | apply kkdrewN | apply kkalloc))) (fun hKa => ?_); (try simp only [World.size_alloc] at hKa); (try simp only [World.size_drew] at hKa); refine (awake_any _).mono ?_; rintro e w1 ⟨rfl, hb1⟩; have HK := hide (kafter hKa hb1); clear hKa hb1; have HC := ktells (unhide HK); (try dsimp only at HC)) | (go_at_call 21; refine know_at (by (repeat (first | exact kk (unhide HK) | apply kkbox | apply kkdrew | apply kkdrewN | apply kkalloc))) (fun hKa => ?_); (try simp only [World.size_alloc] at hKa); (try simp only [World.size_drew] at hKa); refine (refRight_is _ _ _ _ (unhide HT) (by omega) _ (by exact kget hKa (Below.refl _ _))).mono ?_; rintro e w1 ⟨rfl, hb1⟩; have HK := hide (kafter hKa hb1); clear hKa hb1; have HC := ktells (unhide HK); (try dsimp only at HC)))
      all_goals (go_ret; exact ⟨rfl, kup (unhide HK)⟩)
    have l1 : 1 ≤ l.length := by omega
    have l40 : l.length ≤ 40 := by omega
    clear hlen
    cases hl : l.all strOk with
    | false =>
      have HL := hide hl
      clear ht hl
      go_enter Try.func5, Try.ntmps5
      go_wp2_with (first | (go_at_call 17; refine know_at (by (repeat (first | exact kk (unhide HK) | apply kkbox | apply kkdrew | apply kkdrewN | apply kkalloc))) (fun hKa => ?_); (try simp only [World.size_alloc] at hKa); (try simp only [World.size_drew] at hKa); refine (awake_any _).mono ?_; rintro e w1 ⟨rfl, hb1⟩; have HK := hide (kafter hKa hb1); clear hKa hb1; have HC := ktells (unhide HK); (try dsimp only at HC)) | (go_at_call 21; refine know_at (by (repeat (first | exact kk (unhide HK) | apply kkbox | apply kkdrew | apply kkdrewN | apply kkalloc))) (fun hKa => ?_); (try simp only [World.size_alloc] at hKa); (try simp only [World.size_drew] at hKa); refine (refRight_is _ _ _ _ (unhide HT) (by omega) _ (by exact kget hKa (Below.refl _ _))).mono ?_; rintro e w1 ⟨rfl, hb1⟩; have HK := hide (kafter hKa hb1); clear hKa hb1; have HC := ktells (unhide HK); (try dsimp only at HC)) | (go_at_call 22; refine know_at (by (repeat (first | exact kk (unhide HK) | apply kkbox | apply kkdrew | apply kkdrewN | apply kkalloc))) (fun hKa => ?_); (try simp only [World.size_alloc] at hKa); (try simp only [World.size_drew] at hKa); refine (refStreams_is _ _ _ _ (unhide HL) (by omega) _ (by exact kget hKa (Below.refl _ _))).mono ?_; rintro e w1 ⟨rfl, hb1⟩; have HK := hide (kafter hKa hb1); clear hKa hb1; have HC := ktells (unhide HK); (try dsimp only at HC)))
      all_goals (go_ret; exact ⟨rfl, kup (unhide HK)⟩)
    | true =>
      have HL := hide hl
      obtain ⟨t2, t20⟩ := tabOk_len ht
      have HA := hide (show ∀ x ∈ l, StrB x from fun x hx => strOk_iff.1 (List.all_eq_true.1 hl x hx))
      obtain ⟨d, hd⟩ : ∃ d, d = deepFrom t l t.length := ⟨_, rfl⟩
      have hsp := deepFrom_spec t l t.length
      rw [← hd] at hsp
      obtain ⟨dle, dsafe, dun⟩ := hsp
      have DS := hide dsafe
      have DU := hide dun
      have hdr : deepR t l = (if d = t.length then ((0, 7) : Int × Int) else ((d : Int), 0)) := by
        have e0 : ¬ l.length = 0 := by omega
        have e1 : ¬ 40 < l.length := by omega
        simp only [deepR, ht, hl, e0, e1, ← hd]
        simp
      clear dsafe dun hl
      have HRB := hide (fun (k : Nat) (hk : k < t.length) => tabOk_row ht (show t[k]? = some (rowAt t (k : Int)) by
        have := rowAt_get (t := t) (level := (k : Int)) (by omega) (by omega)
        rwa [Int.toNat_natCast] at this))
      have HFL := hide (fun (k : Nat) (x : StrT) (hk : k < t.length) (hx : x ∈ l) => show flashR t (k : Int) x = (flashOf (rowAt t (k : Int)) x, 0) by
        have h1 : inB (k : Int) 0 (t.length - 1) = true := inB_of (by omega) (by omega)
        have h2 : strOk x = true := strOk_iff.2 (unhide HA x hx)
        simp [flashR, ht, h1, h2])
      clear ht hd
      obtain ⟨n0, e0, hnn, hcase⟩ : ∃ n0 e0 : Int, deepR t l = (n0, e0) ∧ ((n0 = 0 ∧ e0 = 7 ∧ d = t.length) ∨ (n0 = (d : Int) ∧ e0 = 0)) := by
        by_cases hdl : d = t.length
        · rw [if_pos hdl] at hdr
          exact ⟨0, 7, hdr, .inl ⟨rfl, rfl, hdl⟩⟩
        · rw [if_neg hdl] at hdr
          exact ⟨d, 0, hdr, .inr ⟨rfl, rfl⟩⟩
      have HD := hide hnn
      clear hnn hdr
      go_enter Try.func5, Try.ntmps5
      go_upto_if 40 with (first | (go_at_call 21; refine know_at (by (repeat (first | exact kk (unhide HK) | apply kkbox | apply kkdrew | apply kkdrewN | apply kkalloc))) (fun hKa => ?_); (try simp only [World.size_alloc] at hKa); (try simp only [World.size_drew] at hKa); refine (refRight_is _ _ _ _ (unhide HT) (by omega) _ (by exact kget hKa (Below.refl _ _))).mono ?_; rintro e w1 ⟨rfl, hb1⟩; have HK := hide (kafter hKa hb1); clear hKa hb1; have HC := ktells (unhide HK); (try dsimp only at HC)) | (go_at_call 22; refine know_at (by (repeat (first | exact kk (unhide HK) | apply kkbox | apply kkdrew | apply kkdrewN | apply kkalloc))) (fun hKa => ?_); (try simp only [World.size_alloc] at hKa); (try simp only [World.size_drew] at hKa); refine (refStreams_is _ _ _ _ (unhide HL) (by omega) _ (by exact kget hKa (Below.refl _ _))).mono ?_; rintro e w1 ⟨rfl, hb1⟩; have HK := hide (kafter hKa hb1); clear hKa hb1; have HC := ktells (unhide HK); (try dsimp only at HC)) | (go_at_call 19; refine know_at (by (repeat (first | exact kk (unhide HK) | apply kkbox | apply kkdrew | apply kkdrewN | apply kkalloc))) (fun hKa => ?_); (try simp only [World.size_alloc] at hKa); (try simp only [World.size_drew] at hKa); refine (mkTable_any _ _ _ (by omega) _ (by exact kget hKa (Below.refl _ _))).mono ?_; rintro e w1 ⟨v1, rfl, ⟨A1, c1, rfl, hc1, hr1, -⟩, hb1⟩; have HK := hide (kadd (F := kRds eRow A1 t) (kafter hKa hb1) hr1); clear hKa hb1 hr1) | (go_at_call 20; refine know_at (by (repeat (first | exact kk (unhide HK) | apply kkbox | apply kkdrew | apply kkdrewN | apply kkalloc))) (fun hKa => ?_); (try simp only [World.size_alloc] at hKa); (try simp only [World.size_drew] at hKa); refine (mkStreams_any _ _ _ (by omega) _ (by exact kget hKa (Below.refl _ _))).mono ?_; rintro e w1 ⟨v1, rfl, ⟨A2, c2, rfl, hc2, hr1, -⟩, hb1⟩; have HK := hide (kadd (F := kRds eStr A2 l) (kafter hKa hb1) hr1); clear hKa hb1 hr1) | (go_at_call 18; refine know_at (by (repeat (first | exact kk (unhide HK) | apply kkbox | apply kkdrew | apply kkdrewN | apply kkalloc))) (fun hKa => ?_); (try simp only [World.size_alloc] at hKa); (try simp only [World.size_drew] at hKa); refine (deepest_is _ _ _ _ _ _ _ (unhide HD) (by omega) (by omega) (by omega) _ (by exact kget hKa (Below.refl _ _)) (by exact kget hKa (Below.refl _ _))).mono ?_; rintro e w1 ⟨rfl, hb1⟩; have HK := hide (kafter hKa hb1); clear hKa hb1; have HC := ktells (unhide HK); (try dsimp only at HC)))
      go_cut [5] (fun s5 wr => s5 = .int .i64 (d : Int) ∧ Aside ((kAnd (kRds eRow A t) (kAnd (kRds eStr A' l) (kUp w))) wr))
      case first =>
        rcases hcase with ⟨rfl, rfl, hdl⟩ | ⟨rfl, rfl⟩
        · have HDL := hide hdl
          clear hdl
          go_wp2_with fail
          go_meet
          exact ⟨by rw [unhide HDL], kbear (unhide HK)⟩
        · go_wp2_with fail
          go_meet
          exact ⟨rfl, kbear (unhide HK)⟩
      case rest =>
        obtain ⟨rfl, HK1⟩ := hcut
        have HK := hide HK1.out
        have k1 : decide (t.length < d) = false := decide_eq_false (by omega)
        have k2 : decide ((d : Int) < 0) = false := decide_eq_false (by omega)
        clear HK1 hcase HD
        go_wp2_with fail
        go_loopg [7, 8] l.length (fun gg s7 s8 wr => ∃ (i : Nat) (bb : Bool), i ≤ l.length ∧ l.length - i ≤ gg ∧ s8 = .int .i64 i ∧ s7 = .bool bb ∧ Aside ((kAnd (kRds eRow A t) (kAnd (kRds eStr A' l) (kUp w))) wr) ∧ Aside ((d = 0 → bb = true) ∧ ∀ (q : Nat) (x : StrT), q < i → l[q]? = some x → 0 < d → 0 < (flashOf (rowAt t ((d - 1 : Nat) : Int)) x).scale → bb = true))
        case atStart => exact ⟨0, _, Nat.zero_le _, by omega, rfl, rfl, unhide HK, (show Aside _ from ⟨fun h => by simp [h], fun q x hq => absurd hq (Nat.not_lt_zero _)⟩)⟩
        case round =>
          obtain ⟨i, bb, hi, hg, rfl, rfl, HKw, INV⟩ := hrel
          by_cases hil : i < l.length
          · have hy : l[i]? = some (l[i]'hil) := List.getElem?_eq_getElem _
            generalize l[i]'hil = y at hy
            have HY := hide hy
            have HK := hide HKw.out
            have hmx : max 0 ((d : Int) - 1) = ((d - 1 : Nat) : Int) := by omega
            have hil' : (i : Int) < l.length := by omega
            have hi0 : (0 : Int) ≤ (i : Int) := by omega
            clear hy
            go_wp2_with fail
            clear hmx
            go_loopg [7, 9] t.length (fun gg s7 s9 wr => ∃ (k : Nat) (b2 : Bool), d - 1 ≤ k ∧ k ≤ t.length ∧ t.length - k ≤ gg ∧ s9 = .int .i64 k ∧ s7 = .bool b2 ∧ Aside ((kAnd (kRds eRow A t) (kAnd (kRds eStr A' l) (kUp w))) wr) ∧ Aside ((bb = true → b2 = true) ∧ (d - 1 < k → 0 < d → 0 < (flashOf (rowAt t ((d - 1 : Nat) : Int)) y).scale → b2 = true)))
            case atStart => exact ⟨d - 1, bb, Nat.le_refl _, by omega, by omega, rfl, rfl, unhide HK, (show Aside _ from ⟨id, fun h => absurd h (Nat.lt_irrefl _)⟩)⟩
            case round =>
              obtain ⟨k, b2, hk0, hk, hgk, rfl, rfl, HKw2, INV2⟩ := hrel
              by_cases hkt : k < t.length
              · have hkt' : (k : Int) < t.length := by omega
                have hsc := (flash_scale (unhide HRB k hkt) (unhide HA y (List.mem_of_getElem? (unhide HY)))).1
                have hsafe : d ≤ k → (flashOf (rowAt t (k : Int)) y).scale = 0 := fun h => safe_scale (unhide DS k h hkt) (unhide HY)
                have HF := hide (unhide HFL k y hkt (List.mem_of_getElem? (unhide HY)))
                obtain ⟨b', o', e2, hb', f0, f1, f2, f3⟩ := rdsStr (kbear (F := kRds eStr A' l) HKw2.out) (unhide HY)
                subst e2
                have HK := hide (p := kAnd (kC b' (o' + i * 4) (.int .i64 y.M)) (kAnd (kC b' (o' + i * 4 + 1) (.int .i64 y.H)) (kAnd (kC b' (o' + i * 4 + 2) (.int .i64 y.S)) (kAnd (kC b' (o' + i * 4 + 3) (.int .i64 y.G)) _))) wr) ⟨⟨f0, hb'⟩, ⟨f1, hb'⟩, ⟨f2, hb'⟩, ⟨f3, hb'⟩, HKw2.out⟩
                clear f0 f1 f2 f3 hb'
                have HP := hide (show ∀ z, z = flashOf (rowAt t (k : Int)) y → z = flashOf (rowAt t (k : Int)) y from fun _ h => h)
                obtain ⟨p, hp⟩ : ∃ p, p = flashOf (rowAt t (k : Int)) y := ⟨_, rfl⟩
                have HPP := hide hp
                rw [← hp] at HF hsafe hsc
                clear hp HP
                obtain ⟨⟨p1, p2, p3, p4⟩, ⟨p5, p6, p7, p8⟩, p9, pz⟩ := p
                obtain ⟨M, H, S, G⟩ := y
                dsimp only at HK hsafe hsc
                go_wp2_with fail
                refine know_here (by (repeat (first | exact kk (unhide HK) | apply kkbox | apply kkdrew | apply kkdrewN | apply kkalloc))) ?_
                intro WA hKA
                (try simp only [World.size_alloc] at hKA)
                (try simp only [World.size_drew] at hKA)
                have HKA := hide hKA
                refine Gen.begin_ [⟨12, 10, #[.int .i64 0, .int .i64 0, .int .i64 0, .int .i64 0, .int .i64 0, .int .i64 0, .int .i64 0, .int .i64 0, .int .i64 0, .int .i64 0], 44⟩] 14 (by kernel_rfl) hKA (by rfl) ⟨fun x hx => by (simp only [List.mem_cons, List.not_mem_nil, or_false] at hx; rcases hx with rfl; all_goals exact ⟨_, by rfl, by rfl, by rfl, fun _ _ => by kernel_rfl⟩), by kernel_rfl, fun _ _ _ _ _ => Iff.rfl⟩ (fun okA => ?_)
                clear hKA
                refine Gen.take 0 (v := ?vA0) okA (by simp only [List.getElem?_toArray, List.getElem?_cons_zero]; rfl) (by kernel_rfl) (by kernel_rfl) (by kernel_rfl) (Or.inl ⟨by rfl, ?hA0⟩) ?_
                case hA0 => (intro wg hSw; have hc := ktells hSw; (try dsimp only at hc); go_simp; try with_reducible rfl)
                (try simp only [Act.put, List.setIfInBounds_toArray, List.set_cons_zero, List.set_cons_succ])
                refine Gen.take 2 (v := ?vA2) okA (by simp only [List.getElem?_toArray, List.getElem?_cons_zero, List.getElem?_cons_succ]; rfl) (by kernel_rfl) (by kernel_rfl) (by kernel_rfl) (Or.inl ⟨by rfl, ?hA2⟩) ?_
                case hA2 => (intro wg hSw; have hc := ktells hSw; (try dsimp only at hc); go_simp; try with_reducible rfl)
                (try simp only [Act.put, List.setIfInBounds_toArray, List.set_cons_zero, List.set_cons_succ])
                refine Gen.take 3 (v := ?vA3) okA (by simp only [List.getElem?_toArray, List.getElem?_cons_zero, List.getElem?_cons_succ]; rfl) (by kernel_rfl) (by kernel_rfl) (by kernel_rfl) (Or.inl ⟨by rfl, ?hA3⟩) ?_
                case hA3 => (intro wg hSw; have hc := ktells hSw; (try dsimp only at hc); go_simp; try with_reducible rfl)
                (try simp only [Act.put, List.setIfInBounds_toArray, List.set_cons_zero, List.set_cons_succ])
                refine Gen.take 4 (v := ?vA4) okA (by simp only [List.getElem?_toArray, List.getElem?_cons_zero, List.getElem?_cons_succ]; rfl) (by kernel_rfl) (by kernel_rfl) (by kernel_rfl) (Or.inl ⟨by rfl, ?hA4⟩) ?_
                case hA4 => (intro wg hSw; have hc := ktells hSw; (try dsimp only at hc); go_simp; try with_reducible rfl)
                (try simp only [Act.put, List.setIfInBounds_toArray, List.set_cons_zero, List.set_cons_succ])
                refine Gen.take 5 (v := ?vA5) okA (by simp only [List.getElem?_toArray, List.getElem?_cons_zero, List.getElem?_cons_succ]; rfl) (by kernel_rfl) (by kernel_rfl) (by kernel_rfl) (Or.inl ⟨by rfl, ?hA5⟩) ?_
                case hA5 => (intro wg hSw; have hc := ktells hSw; (try dsimp only at hc); go_simp; try with_reducible rfl)
                (try simp only [Act.put, List.setIfInBounds_toArray, List.set_cons_zero, List.set_cons_succ])
                refine Gen.take 6 (v := ?vA6) okA (by simp only [List.getElem?_toArray, List.getElem?_cons_zero, List.getElem?_cons_succ]; rfl) (by kernel_rfl) (by kernel_rfl) (by kernel_rfl) (Or.inl ⟨by rfl, ?hA6⟩) ?_
                case hA6 => (intro wg hSw; have hc := ktells hSw; (try dsimp only at hc); go_simp; try with_reducible rfl)
                (try simp only [Act.put, List.setIfInBounds_toArray, List.set_cons_zero, List.set_cons_succ])
                refine Gen.step inferInstance Gen.size 1 okA (by kernel_rfl) inferInstance (by simp) (fun wg hKg hSg => wpOp_of (by simp only [List.getElem?_toArray, List.getElem?_cons_zero, List.getElem?_cons_succ]; rfl) (by rfl) ?_)
                go_simp
                refine (mkTable_any _ _ _ (by omega) _ (by exact kget hKg (Below.refl _ _))).mono ?_
                rintro e wh ⟨v1, rfl, ⟨A1, c1, rfl, hc1, hr1, -⟩, hb1⟩
                (try dsimp only)
                refine Gen.more (F := kRds eRow A1 t) rfl hKg hb1 hr1 ?_
                clear hKg hSg
                clear hb1
                clear hr1
                refine Gen.step inferInstance Gen.size 7 okA (by kernel_rfl) inferInstance (by simp) (fun wg hKg hSg => wpOp_of (by simp only [List.getElem?_toArray, List.getElem?_cons_zero, List.getElem?_cons_succ]; rfl) (by rfl) ?_)
                go_simp
                refine (mkStr_is _ _ _ _ _).mono ?_
                rintro e wh ⟨rfl, o1, o2, rfl⟩
                (try dsimp only)
                refine Gen.stay rfl hKg (by (repeat (first | exact Below.refl _ _ | refine Below.allocs ?_ _ | refine Below.drew ?_ | refine Below.drewNs ?_ _))) ?_
                clear hKg hSg
                refine Gen.step inferInstance Gen.size 8 okA (by kernel_rfl) inferInstance (by simp) (fun wg hKg hSg => wpOp_of (by simp only [List.getElem?_toArray, List.getElem?_cons_zero, List.getElem?_cons_succ]; rfl) (by rfl) ?_)
                go_simp
                refine (flash_is _ _ t _ _ _ _ _ _ _ (unhide HF) (by omega) (by omega) _ (by exact kget hKg (Below.refl _ _))).mono ?_
                rintro e wh ⟨rfl, hb1⟩
                (try dsimp only)
                refine Gen.stay rfl hKg hb1 ?_
                clear hKg hSg
                clear hb1
                refine Gen.take 9 (v := ?vA9) okA (by simp only [List.getElem?_toArray, List.getElem?_cons_zero, List.getElem?_cons_succ]; rfl) (by kernel_rfl) (by kernel_rfl) (by kernel_rfl) (Or.inl ⟨by rfl, ?hA9⟩) ?_
                case hA9 => (intro wg hSw; have hc := ktells hSw; (try dsimp only at hc); go_simp; try with_reducible rfl)
                (try simp only [Act.put, List.setIfInBounds_toArray, List.set_cons_zero, List.set_cons_succ])
                refine Gen.take 10 (v := ?vA10) okA (by simp only [List.getElem?_toArray, List.getElem?_cons_zero, List.getElem?_cons_succ]; rfl) (by kernel_rfl) (by kernel_rfl) (by kernel_rfl) (Or.inl ⟨by rfl, ?hA10⟩) ?_
                case hA10 => (intro wg hSw; have hc := ktells hSw; (try dsimp only at hc); go_simp; try with_reducible rfl)
                (try simp only [Act.put, List.setIfInBounds_toArray, List.set_cons_zero, List.set_cons_succ])
                refine Gen.take 11 (v := ?vA11) okA (by simp only [List.getElem?_toArray, List.getElem?_cons_zero, List.getElem?_cons_succ]; rfl) (by kernel_rfl) (by kernel_rfl) (by kernel_rfl) (Or.inl ⟨by rfl, ?hA11⟩) ?_
                case hA11 => (intro wg hSw; have hc := ktells hSw; (try dsimp only at hc); go_simp; try with_reducible rfl)
                (try simp only [Act.put, List.setIfInBounds_toArray, List.set_cons_zero, List.set_cons_succ])
                refine Gen.finish inferInstance Gen.size okA (by kernel_rfl) inferInstance (by simp) ?_
                simp only [Gen.Fin, NewVar.put]
                (try simp only [Act.put, List.setIfInBounds_toArray, List.set_cons_zero, List.set_cons_succ])
                intro BA12 hnA12 wf hKf hSf
                obtain ⟨wu, rfl, hg12, hup⟩ := graft1 (fun W => Below WA.heap.size WA W) hKf.1.1 hSf.1
                have hz12 := hKf.1.2
                clear hKf hSf
                refine Gen.one 13 (by kernel_rfl) (wpOp_of (by simp only [List.getElem?_toArray, List.getElem?_cons_zero, List.getElem?_cons_succ]; rfl) (by rfl) ?_)
                go_simp
                (try simp only [Act.put, List.setIfInBounds_toArray, List.set_cons_zero, List.set_cons_succ])
                refine ⟨⟨(belowRow hup hz12 _), kafter (unhide HKA) (belowRow hup hz12 _)⟩, ?_⟩
                refine Gen.one 14 (by kernel_rfl) (wpOp_of (by simp only [List.getElem?_toArray, List.getElem?_cons_zero, List.getElem?_cons_succ]; rfl) (by rfl) ?_)
                go_simp
                (try simp only [Act.put, List.setIfInBounds_toArray, List.set_cons_zero, List.set_cons_succ])
                refine ⟨⟨(belowRow hup hz12 _), kafter (unhide HKA) (belowRow hup hz12 _)⟩, ?_⟩
                refine Gen.done (K := (kAnd (kRow BA12 _) _)) (by kernel_rfl) ⟨(RowIs.same hg12 _), kafter (unhide HKA) (belowRow hup hz12 _)⟩ (fun WA hKA => ?_) _
                clear okA hup hg12 hz12
                have HK := hide hKA
                have HC := ktells hKA
                (try dsimp only at HC)
                clear hKA
                by_cases hdk : d ≤ k
                · obtain rfl : pz = 0 := hsafe hdk
                  clear hsafe hsc
                  have j1 : decide (d ≤ k) = true := decide_eq_true (by omega)
                  have j2 : decide (k < d) = false := decide_eq_false (by omega)
                  cases b2
                  all_goals
                    go_wp2_with fail
                    go_roundg (t.length - (k + 1))
                    case measure => omega
                    case rel =>
                      refine ⟨k + 1, _, by omega, by omega, by omega, by go_num, rfl, kbear (unhide HK), (show Aside _ from ⟨fun h => by first | rfl | exact INV2.out.1 h, fun h1 h2 h3 => by first | rfl | (by_cases e : d - 1 < k; exact INV2.out.2 e h2 h3; omega)⟩)⟩
                · have hkd : k = d - 1 := by omega
                  have j1 : decide (d ≤ k) = false := decide_eq_false (by omega)
                  have j2 : decide (k < d) = true := decide_eq_true (by omega)
                  have HKD := hide hkd
                  clear hkd hsafe
                  by_cases hz : 0 < pz
                  · have j3 : decide (0 < pz) = true := decide_eq_true hz
                    clear hz
                    cases b2
                    all_goals
                      go_wp2_with fail
                      go_roundg (t.length - (k + 1))
                      case measure => omega
                      case rel =>
                        refine ⟨k + 1, _, by omega, by omega, by omega, by go_num, rfl, kbear (unhide HK), (show Aside _ from ⟨fun _ => rfl, fun _ _ _ => rfl⟩)⟩
                  · have j3 : decide (0 < pz) = false := decide_eq_false hz
                    have HZ := hide hz
                    clear hz
                    cases b2
                    all_goals
                      go_wp2_with fail
                      go_roundg (t.length - (k + 1))
                      case measure => omega
                      case rel =>
                        refine ⟨k + 1, _, by omega, by omega, by omega, by go_num, rfl, kbear (unhide HK), (show Aside _ from ⟨fun h => by first | rfl | exact INV2.out.1 h, fun _ _ h3 => by first | rfl | (rw [← unhide HKD, ← unhide HPP] at h3; have h4 : 0 < pz := h3; have h5 := unhide HZ; omega)⟩)⟩
              · obtain rfl : k = t.length := by omega
                have HK := hide HKw2.out
                go_wp2_with fail
                go_roundg (l.length - (i + 1))
                case measure => omega
                case rel =>
                  refine ⟨i + 1, _, by omega, by omega, by go_num, rfl, kbear (unhide HK), (show Aside _ from ⟨fun h => INV2.out.1 (INV.out.1 h), fun q x hq hx hd0 hs => ?_⟩)⟩
                  by_cases e : q = i
                  · subst e
                    have h1 := unhide HY
                    rw [hx] at h1
                    cases h1
                    exact INV2.out.2 (by omega) hd0 hs
                  · exact INV2.out.1 (INV.out.2 q x (by omega) hx hd0 hs)
          · obtain rfl : i = l.length := by omega
            obtain rfl : bb = true := by
              by_cases h0 : d = 0
              · exact INV.out.1 h0
              · have h1 : 0 < d := by omega
                obtain ⟨q, x, hx, hs⟩ := unsafe_scale (unhide HRB (d - 1) (by omega)) (unhide HA) (unhide DU h1)
                exact INV.out.2 q x (List.getElem?_eq_some_iff.1 hx).1 hx h1 hs
            have HK := hide HKw.out
            go_wp2_with (go_at_call 17; refine know_at (by (repeat (first | exact kk (unhide HK) | apply kkbox | apply kkdrew | apply kkdrewN | apply kkalloc))) (fun hKa => ?_); (try simp only [World.size_alloc] at hKa); (try simp only [World.size_drew] at hKa); refine (awake_any _).mono ?_; rintro e w1 ⟨rfl, hb1⟩; have HK := hide (kafter hKa hb1); clear hKa hb1; have HC := ktells (unhide HK); (try dsimp only at HC))
            all_goals (go_ret; exact ⟨rfl, kup (unhide HK)⟩)
end Go.Proofs.Ytenpbiineblcjaa
