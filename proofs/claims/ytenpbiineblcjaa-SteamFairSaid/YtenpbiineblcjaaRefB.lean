/-
  Contract of the reference's Deepest. For every valid table and valid streams.
-/
import Derived.Test.YtenpbiineblcjaaRefA
import Derived.Test.YtenpbiineblcjaaLawC
import Derived.Test.YtenpbiineblcjaaKnow
namespace Go.Proofs.Ytenpbiineblcjaa
open Go.RowKit Go.Shelf

/-- The document's level; -1: there is none. -/
def refDeep (t : List RowT) (l : List StrT) : Int := if deepFrom t l t.length = t.length then -1 else (deepFrom t l t.length : Int)

theorem deepFrom_safe (t : List RowT) (l : List StrT) (n : Nat) : ∀ d, (∀ j, n ≤ j → j < n + d → safeAt t l j = true) → deepFrom t l (n + d) = deepFrom t l n
  | 0, _ => rfl
  | d + 1, h => by
    show (if safeAt t l (n + d) then deepFrom t l (n + d) else n + d + 1) = deepFrom t l n
    rw [if_pos (h (n + d) (by omega) (by omega))]
    exact deepFrom_safe t l n d (fun j h1 h2 => h j h1 (by omega))
theorem deepFrom_stop {t : List RowT} {l : List StrT} {k n : Nat} (hk : k < n) (hs : safeAt t l k = false) (h : ∀ j, k + 1 ≤ j → j < n → safeAt t l j = true) : deepFrom t l n = k + 1 := by
  have := deepFrom_safe t l (k + 1) (n - (k + 1)) (fun j h1 h2 => h j h1 (by omega))
  rw [show k + 1 + (n - (k + 1)) = n from by omega] at this
  rw [this, deepFrom, hs]
  rfl
theorem deepFrom_zero {t : List RowT} {l : List StrT} {n : Nat} (h : ∀ j, j < n → safeAt t l j = true) : deepFrom t l n = 0 := by
  have := deepFrom_safe t l 0 n (fun j _ h2 => h j (by omega))
  rw [Nat.zero_add] at this
  rw [this]
  rfl
theorem flash_scale {f : RowT} {s : StrT} (hf : RowB f) (hs : StrB s) : 0 ≤ (flashOf f s).scale ∧ (flashOf f s).scale ≤ s.S := by
  have h1 : 0 ≤ (splitOf f s).2.M := by
    obtain ⟨a, b⟩ := steamOf_bd hf hs
    unfold splitOf
    split
    · exact hs.m0
    · split
      · exact Int.le_refl _
      · show 0 ≤ s.M - steamOf f s
        omega
  have h2 := Int.mul_nonneg h1 hf.s0
  have h3 := hs.s0
  simp only [flashOf, heldOf]
  omega

set_option maxRecDepth 100000 in
set_option maxHeartbeats 3200000 in
theorem refDeepest_any (A : Option Addr) (c : Nat) (t : List RowT) (A' : Option Addr) (c' : Nat) (l : List StrT) (ht : tabOk t = true) (hl : ∀ x ∈ l, StrB x) (hn' : l.length ≤ 9223372036854775807) (w : World) (hr : Rds eRow w w.heap.size A t) (hr' : Rds eStr w w.heap.size A' l) :
    Calls Try.prog 23 #[.slice A t.length c, .slice A' l.length c'] w fun e w' => e = .returned (.int .i64 (refDeep t l)) ∧ Below w.heap.size w w' := by
  obtain ⟨l2, l20⟩ := tabOk_len ht
  have HR := hide (And.intro hr (And.intro hr' (And.intro ht hl)))
  clear hr hr' ht hl
  go_enter Try.func23, Try.ntmps23
  go_wp2
  go_loopg [5] t.length (fun gg s5 wr => ∃ k : Nat, k ≤ t.length ∧ k ≤ gg ∧ s5 = .int .i64 ((k : Int) - 1) ∧ Aside (Below w.heap.size w wr) ∧ Aside (∀ j, k ≤ j → j < t.length → safeAt t l j = true))
  case atStart => exact ⟨t.length, Nat.le_refl _, Nat.le_refl _, rfl, Below.refl _ _, (show Aside _ from fun j h1 h2 => absurd h2 (by omega))⟩
  case round =>
    obtain ⟨k, hk, hg, rfl, BW, N⟩ := hrel
    have hsz := BW.out.size
    rcases Nat.eq_zero_or_pos k with rfl | hpos
    · rw [show (((0 : Nat) : Int) - 1) = -1 from rfl]
      go_wp2_with fail
      go_ret
      refine ⟨ret_int ?_, BW.out⟩
      have h0 := deepFrom_zero (t := t) (l := l) (n := t.length) (fun j hj => N.out j (by omega) hj)
      rw [refDeep, h0, if_neg (by omega)]
      rfl
    · obtain ⟨j, rfl⟩ : ∃ j, k = j + 1 := ⟨k - 1, by omega⟩
      rw [show (((j + 1 : Nat) : Int) - 1) = (j : Int) from by omega]
      have hjl : (j : Int) < t.length := by omega
      have hj0 : (0 : Int) ≤ (j : Int) := by omega
      obtain ⟨wo, rfl⟩ : ∃ wo : World, wo = wr := ⟨_, rfl⟩
      go_wp2_with fail
      go_loopg [6] l.length (fun gg s6 wr => ∃ i : Nat, i ≤ l.length ∧ l.length - i ≤ gg ∧ s6 = .int .i64 i ∧ Aside (Below w.heap.size w wr) ∧ Aside (∀ (q : Nat) (x : StrT), q < i → l[q]? = some x → (flashOf (rowAt t j) x).scale = 0))
      case atStart => exact ⟨0, Nat.zero_le _, by omega, rfl, BW, (show Aside _ from fun q x hq => absurd hq (by omega))⟩
      case round =>
        obtain ⟨i, hi, hgi, rfl, BI, NI⟩ := hrel
        have hzi := BI.out.size
        by_cases hil : i < l.length
        · obtain ⟨hr, hr', ht, hl⟩ := unhide HR
          have hx := rowAt_get (t := t) (level := (j : Int)) (by omega) (by omega)
          rw [Int.toNat_natCast] at hx
          have hrow := tabOk_row ht hx
          have hy : l[i]? = some (l[i]'hil) := List.getElem?_eq_getElem _
          have hsb := hl _ (List.mem_of_getElem? hy)
          generalize l[i]'hil = y at hy hsb
          have HY := hide hy
          obtain ⟨b, o, e1, hb, d0, d1, d2, d3, d4⟩ := rdsRow (hr.below BI.out (Nat.le_refl _)) hx
          obtain ⟨b', o', e2, hb', f0, f1, f2, f3⟩ := rdsStr (hr'.below BI.out (Nat.le_refl _)) hy
          clear hr hr' ht hl
          subst e1
          subst e2
          have hbz : b < wr.heap.size := by omega
          have hbz' : b' < wr.heap.size := by omega
          have hof := hide (fun V => refFlash_any (rowAt t j) y hrow hsb V)
          have hsc := (flash_scale hrow hsb).1
          generalize hp : flashOf (rowAt t j) y = p at hof hsc
          have HP := hide hp
          generalize rowAt t j = r at d0 d1 d2 d3 d4 hof
          clear hp hx hrow hy hsb
          obtain ⟨⟨p1, p2, p3, p4⟩, ⟨p5, p6, p7, p8⟩, p9, pz⟩ := p
          obtain ⟨T, P, L, V, S⟩ := r
          obtain ⟨M, H, S', G⟩ := y
          dsimp only at d0 d1 d2 d3 d4 f0 f1 f2 f3 hsc
          have hfld : ∀ V, (Instr.field 104 (.agg #[.int .i64 p1, .int .i64 p2, .int .i64 p3, .int .i64 p4, .int .i64 p5, .int .i64 p6, .int .i64 p7, .int .i64 p8, .int .i64 p9, .int .i64 pz]) 3).run Try.prog V = .ok (.int .i64 pz) V := fun _ => by kernel_rfl
          have hil' : (i : Int) < l.length := by omega
          have hi0 : (0 : Int) ≤ (i : Int) := by omega
          by_cases hz : pz = 0
          · have HZ := hide hz
            subst hz
            go_wp2_with fail
            go_region_held3 (fun W => W.cell? ⟨b, o + j * 5, none⟩ = some (.int .i64 T) ∧ W.cell? ⟨b, o + j * 5 + 1, none⟩ = some (.int .i64 P) ∧ W.cell? ⟨b, o + j * 5 + 2, none⟩ = some (.int .i64 L) ∧ W.cell? ⟨b, o + j * 5 + 3, none⟩ = some (.int .i64 V) ∧ W.cell? ⟨b, o + j * 5 + 4, none⟩ = some (.int .i64 S)
                ∧ W.cell? ⟨b', o' + i * 4, none⟩ = some (.int .i64 M) ∧ W.cell? ⟨b', o' + i * 4 + 1, none⟩ = some (.int .i64 H) ∧ W.cell? ⟨b', o' + i * 4 + 2, none⟩ = some (.int .i64 S') ∧ W.cell? ⟨b', o' + i * 4 + 3, none⟩ = some (.int .i64 G)) (go_simp)
              ((go_at_call 52; refine (unhide hof _).mono ?_; rintro e w4 ⟨rfl, hb4⟩; have hcc : ∀ q, w4.cell? ⟨b, q, none⟩ = wr.cell? ⟨b, q, none⟩ := fun q => hb4.cell (p := ⟨b, q, none⟩) hbz; have hcd : ∀ q, w4.cell? ⟨b', q, none⟩ = wr.cell? ⟨b', q, none⟩ := fun q => hb4.cell (p := ⟨b', q, none⟩) hbz'; have hBe : Below w.heap.size w w4 := BI.out.drew.trans (hb4.mono (by simp; omega))))
            go_wp2_with fail
            go_roundg (l.length - (i + 1))
            case measure => omega
            case rel =>
              refine ⟨i + 1, by omega, by omega, by go_num, hBe, (show Aside _ from fun q x hq hx => ?_)⟩
              by_cases e : q = i
              · subst e
                have h1 := unhide HY
                rw [hx] at h1
                cases h1
                rw [unhide HP]
              · exact NI.out q x (by omega) hx
          · have hpz : 0 < pz := by omega
            have HZ := hide hz
            clear hz
            have HD := hide (show deepFrom t l t.length = j + 1 from deepFrom_stop (by omega) (by
              cases e : safeAt t l j with
              | false => rfl
              | true =>
                have h1 := List.all_eq_true.1 e _ (List.mem_of_getElem? (unhide HY))
                rw [unhide HP] at h1
                simp at h1
                omega) (fun q h1 h2 => N.out q h1 h2))
            go_wp2_with fail
            go_region_held3 (fun W => W.cell? ⟨b, o + j * 5, none⟩ = some (.int .i64 T) ∧ W.cell? ⟨b, o + j * 5 + 1, none⟩ = some (.int .i64 P) ∧ W.cell? ⟨b, o + j * 5 + 2, none⟩ = some (.int .i64 L) ∧ W.cell? ⟨b, o + j * 5 + 3, none⟩ = some (.int .i64 V) ∧ W.cell? ⟨b, o + j * 5 + 4, none⟩ = some (.int .i64 S)
                ∧ W.cell? ⟨b', o' + i * 4, none⟩ = some (.int .i64 M) ∧ W.cell? ⟨b', o' + i * 4 + 1, none⟩ = some (.int .i64 H) ∧ W.cell? ⟨b', o' + i * 4 + 2, none⟩ = some (.int .i64 S') ∧ W.cell? ⟨b', o' + i * 4 + 3, none⟩ = some (.int .i64 G)) (go_simp)
              ((go_at_call 52; refine (unhide hof _).mono ?_; rintro e w4 ⟨rfl, hb4⟩; have hcc : ∀ q, w4.cell? ⟨b, q, none⟩ = wr.cell? ⟨b, q, none⟩ := fun q => hb4.cell (p := ⟨b, q, none⟩) hbz; have hcd : ∀ q, w4.cell? ⟨b', q, none⟩ = wr.cell? ⟨b', q, none⟩ := fun q => hb4.cell (p := ⟨b', q, none⟩) hbz'; have hBe : Below w.heap.size w w4 := BI.out.drew.trans (hb4.mono (by simp; omega))))
            go_wp2_with fail
            all_goals
              rename_i hq
              simp only [beq_iff_eq, beq_eq_false_iff_ne] at hq
              go_ret
              refine ⟨ret_int ?_, hBe⟩
              rw [refDeep, unhide HD]
              split <;> omega
        · obtain rfl : i = l.length := by omega
          have HS := hide (show safeAt t l j = true from List.all_eq_true.2 (fun x hx => by
            obtain ⟨q, hq, rfl⟩ := List.getElem_of_mem hx
            exact decide_eq_true (NI.out q _ hq (List.getElem?_eq_getElem _))))
          have HB := hide BI.out
          go_wp2_with fail
          go_roundg j
          case measure => omega
          case rel =>
            refine ⟨j, by omega, by omega, by go_num, unhide HB, (show Aside _ from fun q h1 h2 => ?_)⟩
            by_cases e : q = j
            · subst e; exact unhide HS
            · exact N.out q (by omega) h2
end Go.Proofs.Ytenpbiineblcjaa
