/-
  steam.At: what it computes, as a plain function, and that it does (the contract of its range over slices.Backward is used).
-/
import Derived.Test.YtenpbiineblcjaaIterB
namespace Go.Proofs.Ytenpbiineblcjaa
open Go.RowKit Go.Shelf
attribute [local go_sem] Oper.semAt_some

/-- The last row whose pressure is at most p. -/
def lastAt (p : Int) : List GRow → Nat → Option Nat
  | _, 0 => none
  | t, m + 1 => bif (t[m]?.map fun r => decide (r.P ≤ p)).getD false then some m else lastAt p t m
def atR (v : Bool) (t : List GRow) (p : Int) : Int × Int :=
  bif v then (match lastAt p t t.length with | some m => ((m : Int), 0) | none => (0, 7)) else (0, 1)
def steam_AtX (N : Nat) (t : List GRow) (p : Int) : Option (Int × Int) :=
  (steam_Table_validX N t).bind fun v => some (atR v t p)

theorem lastAt_some {p : Int} {t : List GRow} {k : Nat} {r : GRow} (hk : t[k]? = some r) (hp : r.P ≤ p) : ∀ m, k < m → (∀ j x, k < j → j < m → t[j]? = some x → p < x.P) → lastAt p t m = some k
  | 0, h, _ => absurd h (Nat.not_lt_zero _)
  | m + 1, h, hno => by
    by_cases e : k = m
    · subst e
      simp [lastAt, hk, hp]
    · have ih := lastAt_some hk hp m (by omega) fun j x h1 h2 => hno j x h1 (by omega)
      cases hx : t[m]? with
      | none => simp [lastAt, hx, ih]
      | some x =>
        have := hno m x (by omega) (by omega) hx
        simp [lastAt, hx, ih, Int.not_le.2 this]
theorem lastAt_none {p : Int} {t : List GRow} : ∀ m, (∀ j x, j < m → t[j]? = some x → p < x.P) → lastAt p t m = none
  | 0, _ => rfl
  | m + 1, h => by
    have ih := lastAt_none m fun j x hj => h j x (by omega)
    cases hx : t[m]? with
    | none => simp [lastAt, hx, ih]
    | some x =>
      have := h m x (by omega) hx
      simp [lastAt, hx, ih, Int.not_le.2 this]

theorem boxBehind {W w1 : World} {B : Nat} {t : TypeId} {v : Value} (h : Boxed W B t v) (hb : Below W.heap.size W w1) : Boxed w1 B t v := (hb.block B h.lt).trans h

theorem newCell (W : World) (cs : Array Value) (t : TypeId) (i : Nat) : (W.alloc (.cells cs t (0, 0))).cell? ⟨W.heap.size, i, none⟩ = cs[i]? := by
  have h : (W.alloc (.cells cs t (0, 0))).heap[W.heap.size]? = some (.cells cs t (0, 0)) := World.alloc_heap_new W _
  unfold World.cell?
  rw [h]
  rfl

set_option maxRecDepth 100000 in
set_option maxHeartbeats 4000000 in
theorem at_in (A : Option Addr) (cap : Nat) (t : List GRow) (p : Int) (v : Bool) (hlen : v = true → t.length ≤ 20) (w : World) (hR : Rows w.heap.size w A t)
    (hv : ∀ W, Below w.heap.size w W → Calls Try.prog 56 #[.slice A t.length cap] W fun e w' => e = .returned (.bool v) ∧ Below W.heap.size W w') :
    CallsIn Fence.wide 20 Try.prog 42 #[.slice A t.length cap, .int .i64 p] w fun e w' => e = .returned (.tuple #[.int .i64 (atR v t p).1, .int .i64 (atR v t p).2]) ∧ Below w.heap.size w w' := by
  have hro : Fence.wide.round = none := rfl
  have hF : ∀ g, Fence.wide.fn g := fun g => trivial
  refine callsIn_of_wp_marks Try.func42 rfl (hF _) ?_ hro
  simp only [Try.ntmps42, List.size_toArray, List.length_cons, List.length_nil, Nat.reduceAdd, Nat.reduceSub, Array.replicate_succ, Array.replicate_zero, List.push_toArray, List.append_toArray, List.nil_append, List.cons_append]
  have hB3 : Below w.heap.size w (((w.alloc (.cells #[.int .i64 p] 3)).alloc (.cells #[.int .i64 0] 3)).alloc (.cells #[.int .i64 0] 26)) := (((Below.refl _ w).alloc (Nat.le_refl _) _).alloc (by simp) _).alloc (by simp; omega) _
  have b3 := ((Boxed.new w 3 (.int .i64 p)).alloc (.cells #[.int .i64 0] 3)).alloc (.cells #[.int .i64 0] 26)
  have b4 := (Boxed.new (w.alloc (.cells #[.int .i64 p] 3)) 3 (.int .i64 0)).alloc (.cells #[.int .i64 0] 26)
  have b5 := Boxed.new ((w.alloc (.cells #[.int .i64 p] 3)).alloc (.cells #[.int .i64 0] 3)) 26 (.int .i64 0)
  simp only [World.size_alloc] at b4 b5
  cases v with
  | false =>
    gi_wp2_with (gi_at_call 56; refine (callsIn_wide.2 (hv _ hB3)).mono ?_; rintro e w1 ⟨rfl, hb1⟩; have d4 := boxBehind b4 hb1; have d5 := boxBehind b5 hb1; have c4 := d4.cell; have c5 := d5.cell; have f4 := d4.frozen; have f5 := d5.frozen)
    have g4 := (d4.set (.int .i64 0)).other (B' := w.heap.size + 1 + 1) (by omega) (.int .i64 1)
    have g5 := (d5.other (B' := w.heap.size + 1) (by omega) (.int .i64 0)).set (.int .i64 1)
    have hB1 : Below w.heap.size w w1 := hB3.trans (hb1.mono (by simp; omega))
    have h4 := g4.cell
    have h5 := g5.cell
    refine ⟨.tuple #[.int .i64 0, .int .i64 1], ?_, rfl, (hB1.setCell (p := ⟨w.heap.size + 1, 0, none⟩) (by simp) _).setCell (p := ⟨w.heap.size + 1 + 1, 0, none⟩) (by simp; omega) _⟩
    simp [results, Try.f42, go_sem, h4, h5]
  | true =>
    have hl20 := hlen rfl
    gi_wp2_with (first | (gi_at_call 56; refine (callsIn_wide.2 (hv _ hB3)).mono ?_; rintro e w1 ⟨rfl, hb1⟩) | (gi_at_call 77; refine (back_in Fence.wide (20 - 1) (hF _) hro _ _ _ _).mono ?_; rintro e w' ⟨rfl, rfl⟩))
    have hsz1 : w.heap.size + 1 + 1 + 1 ≤ w1.heap.size := by have := hb1.size; simpa using this
    have hB1 : Below w.heap.size w w1 := hB3.trans (hb1.mono (by simp; omega))
    have d3 := (boxBehind b3 hb1).alloc (.cells #[.slice A t.length cap] 30)
    have d4 := (boxBehind b4 hb1).alloc (.cells #[.slice A t.length cap] 30)
    have d5 := (boxBehind b5 hb1).alloc (.cells #[.slice A t.length cap] 30)
    have dN := Boxed.new w1 30 (.slice A t.length cap)
    have hB2 : Below w.heap.size w (w1.alloc (.cells #[.slice A t.length cap] 30)) := hB1.alloc hB1.size _
    refine wpIn_rangeFunc_ownH hro (by decide) (gf := 91) (lb := #[.pointer (some ⟨w1.heap.size, 0, none⟩)]) rfl (hF _) (enters_of Try.func91 (by kernel_rfl) rfl)
      (back_stops Fence.wide (20 - 1) (hF _) hro (by decide) w1.heap.size (w1.heap.size + 1) A cap t hl20 _ (Nat.lt_succ_self _) (by simp) dN.cell ((hR.below hB2).more (by omega))) belowK_t (belowK_b (by simp)) (Below.refl _ _) (fun _ => rfl)
      (fun pre W => ((Boxed W w.heap.size 3 (.int .i64 p) ∧ Boxed W (w.heap.size + 1) 3 (.int .i64 0) ∧ Boxed W (w.heap.size + 1 + 1) 26 (.int .i64 0) ∧ Boxed W w1.heap.size 30 (.slice A t.length cap)) ∧ ∀ q ∈ pre, p < q.2.P) ∧ Below w.heap.size w W)
      (fun c pre W => (c = .ret ∧ ∃ ini last, pre = ini ++ [last] ∧ (∀ q ∈ ini, p < q.2.P) ∧ last.2.P ≤ p ∧ Boxed W (w.heap.size + 1) 3 (.int .i64 (last.1 : Int)) ∧ Boxed W (w.heap.size + 1 + 1) 26 (.int .i64 0)) ∧ Below w.heap.size w W)
      (OwnFrom.and (OwnFrom.and (OwnFrom.and (Own.from (boxed_own _ _ _) _) (OwnFrom.and (Own.from (boxed_own _ _ _) _) (OwnFrom.and (Own.from (boxed_own _ _ _) _) (Own.from (boxed_own _ _ _) _)))) (Own.from (fun _ _ _ _ hs _ _ => hs) _)) (ownFrom_below (Nat.le_refl _) (by simp; omega)))
      (fun c => OwnFrom.and (Own.from (fun s X Y row hs hg hr => by
        obtain ⟨hc, ini, last, e1, e2, e3, e4, e5⟩ := hs
        exact ⟨hc, ini, last, e1, e2, e3, boxed_own _ _ (fun (_ : Unit) => Value.int .i64 (last.1 : Int)) () X Y row e4 hg hr, boxed_own _ _ (fun (_ : Unit) => Value.int .i64 0) () X Y row e5 hg hr⟩) _) (ownFrom_below (Nat.le_refl _) (by simp; omega)))
      ⟨⟨⟨d3, d4, d5, dN⟩, by simp⟩, hB2⟩
      (fun x a' W => ∃ Bx, w1.heap.size < Bx ∧ W.cell? ⟨Bx, 1, none⟩ = some (.int .i64 x.2.P) ∧ a' = { tmps := #[.slice A t.length cap, .int .i64 p, undef, .pointer (some ⟨w.heap.size, 0, none⟩), .pointer (some ⟨w.heap.size + 1, 0, none⟩), .pointer (some ⟨w.heap.size + 1 + 1, 0, none⟩), .int .i64 (x.1 : Int), .pointer (some ⟨Bx, 0, none⟩), .slice A t.length cap, .bool true, .bool false, .slice A t.length cap, .func (.func 91) #[] #[.pointer (some ⟨w1.heap.size, 0, none⟩)], .int .i64 (x.1 : Int), rowV x.2, undef, undef, undef, undef, undef], defers := [] })
      (fun x a' _ X Y row hs hg hr => by obtain ⟨Bx, h1, h2, h3⟩ := hs; exact ⟨Bx, h1, cell_kept h2 hg (fun r e => (hr r e).2), h3⟩)
      ?assign ?body ?done ?stop
    case assign =>
      rintro l pre x W K ⟨⟨⟨q3, q4, q5, q6⟩, hp⟩, hB⟩ hK
      dsimp only [rowV]
      gi_wp2
      exact hK _ _ ((KeepsOthers.alloc _ _).from _) ((Below.refl _ W).alloc q6.lt _) ⟨⟨⟨q3.alloc _, q4.alloc _, q5.alloc _, q6.alloc _⟩, hp⟩, hB.alloc hB.size _⟩ ⟨W.heap.size, q6.lt, newCell _ _ _ _, rfl⟩
    case body =>
      rintro l pre x a' W hl ⟨r, hr⟩ ⟨⟨⟨q3, q4, q5, q6⟩, hp⟩, hB⟩ ⟨Bx, hBx, cx, rfl⟩ hlt
      have c3 := q3.cell
      have c4 := q4.cell
      have c5 := q5.cell
      have f4 := q4.frozen
      have f5 := q5.frozen
      gi_wp2
      · have hx : x.2.P ≤ p := by assumption
        have g4 := (q4.set (.int .i64 (x.1 : Int))).other (B' := w.heap.size + 1 + 1) (by omega) (.int .i64 0)
        have g5 := (q5.other (B' := w.heap.size + 1) (by omega) (.int .i64 (x.1 : Int))).set (.int .i64 0)
        exact ⟨((KeepsOthers.setCell _ _ _).trans (KeepsOthers.setCell _ _ _)).from _, ⟨rfl, pre, x, rfl, hp, hx, g4, g5⟩, (hB.setCell (p := ⟨w.heap.size + 1, 0, none⟩) (by simp) _).setCell (p := ⟨w.heap.size + 1 + 1, 0, none⟩) (by simp; omega) _⟩
      · have hx : p < x.2.P := by assumption
        exact ⟨KeepsFrom.refl _ _, Below.refl _ _, ⟨⟨q3, q4, q5, q6⟩, fun q hq => (List.mem_append.1 hq).elim (hp q) (fun e => by simp at e; subst e; exact hx)⟩, hB⟩
    case done =>
      rintro D ys W hD rfl ⟨⟨⟨q3, q4, q5, q6⟩, hp⟩, hB⟩ hK
      have c4 := q4.cell
      have c5 := q5.cell
      have f4 := q4.frozen
      have f5 := q5.frozen
      gi_wp2
      have hK' := ((KeepsOthers.setCell W ⟨w.heap.size + 1, 0, none⟩ (.int .i64 0)).trans (KeepsOthers.setCell _ ⟨w.heap.size + 1 + 1, 0, none⟩ (.int .i64 7))).same D _ hK rfl
      have g4 := (q4.set (.int .i64 0)).other (B' := w.heap.size + 1 + 1) (by omega) (.int .i64 7)
      have g5 := (q5.other (B' := w.heap.size + 1) (by omega) (.int .i64 0)).set (.int .i64 7)
      have h4 := cell_kept g4.cell (grownBy_putObj' _ D (.deferred none)) (fun r e => by cases e; exact ⟨_, hK', rfl⟩)
      have h5 := cell_kept g5.cell (grownBy_putObj' _ D (.deferred none)) (fun r e => by cases e; exact ⟨_, hK', rfl⟩)
      have hD' : w.heap.size ≤ D := by simp at hD; omega
      have e : atR true t p = (0, 7) := by
        have : lastAt p t t.length = none := lastAt_none _ fun j x _ hx => hp (j, x) (came_mem.2 ⟨Nat.zero_le _, hx⟩)
        simp [atR, this]
      rw [e]
      refine ⟨by simp, .inl ⟨_, _, rfl, run_takeDeferred hK', ⟨.tuple #[.int .i64 0, .int .i64 7], ?_, rfl, ((hB.setCell (p := ⟨w.heap.size + 1, 0, none⟩) (by simp) _).setCell (p := ⟨w.heap.size + 1 + 1, 0, none⟩) (by simp; omega) _).trans (belowK_b (w := w) (Nat.le_refl _) _ D _ _ hD' hK' rfl rfl)⟩⟩⟩
      simp [results, Try.f42, go_sem, h4, h5]
    case stop =>
      rintro D c pre W hD ⟨m, hm, rfl⟩ ⟨⟨rfl, ini, last, e1, e2, e3, q4, q5⟩, hB⟩ hK
      gi_wp2
      have h4 := cell_kept q4.cell (grownBy_putObj' _ D (.deferred none)) (fun r e => by cases e; exact ⟨_, hK, rfl⟩)
      have h5 := cell_kept q5.cell (grownBy_putObj' _ D (.deferred none)) (fun r e => by cases e; exact ⟨_, hK, rfl⟩)
      have hD' : w.heap.size ≤ D := by simp at hD; omega
      rw [came_succ t hm] at e1
      obtain ⟨rfl, e5⟩ := List.append_inj' e1 rfl
      obtain rfl : (m, t[m]?.getD ⟨0, 0, 0, 0, 0⟩) = last := by simpa using e5
      have e : atR true t p = ((m : Int), 0) := by
        have hx : t[m]? = some t[m] := List.getElem?_eq_getElem hm
        rw [hx] at e3
        have : lastAt p t t.length = some m := lastAt_some hx e3 _ hm fun j x h1 _ hj => e2 (j, x) (came_mem.2 ⟨h1, hj⟩)
        simp [atR, this]
      rw [e]
      refine ⟨by simp, .inl ⟨_, _, rfl, run_takeDeferred hK, ⟨.tuple #[.int .i64 (m : Int), .int .i64 0], ?_, rfl, hB.trans (belowK_b (w := w) (Nat.le_refl _) _ D _ _ hD' hK rfl rfl)⟩⟩⟩
      simp [results, Try.f42, go_sem, h4, h5]

theorem valid_len {N : Nat} {t : List GRow} (h : steam_Table_validX N t = some true) : t.length ≤ 20 := by
  unfold steam_Table_validX at h
  obtain ⟨x, hx, h⟩ := bind_out h
  cases x with
  | false => simp at h
  | true =>
    unfold steam_withinX at hx
    by_cases hl : (2 : Int) ≤ (t.length : Int)
    · simp [hl] at hx; omega
    · simp [hl] at hx

/-- The contract in the engine's form. -/
theorem steam_AtX_ok (N : Nat) (t : List GRow) (p : Int) (r : Int × Int) (h : steam_AtX N t p = some r) : Spec Try.prog 42 [(.dat 5 (t.map c_GRow)), (I p)] [] (.tup [(I r.1), (I r.2)]) [] := by
  refine spec_of_calls fun X φ w vals hsz hargs hφ hX => ?_
  obtain ⟨v, hv, h⟩ := bind_out h
  obtain rfl := Option.some.inj h
  obtain ⟨A, cap, e0, _, _, hR⟩ := dat_reads (by decide) (hargs 0 _ rfl)
  have e1 := rel_lit (hargs 1 _ rfl)
  have ev : vals = #[.slice A t.length cap, .int .i64 p] := by
    apply Array.ext
    · exact hsz
    · intro i h1 h2
      have h3 : i < 2 := h2
      match i, h3 with
      | 0, _ => simpa [Array.getD_eq_getD_getElem?, show 0 < vals.size from h1] using e0
      | 1, _ => simpa [Array.getD_eq_getD_getElem?, show 1 < vals.size from h1] using e1
  subst ev
  have hd := hargs 0 _ rfl
  refine (callsIn_wide.1 (at_in A cap t p v (fun e => valid_len (e ▸ hv)) w hR fun W hW => ?_)).mono ?_
  · have hrel : RelV X φ W (.dat 5 (t.map c_GRow)) (.slice A t.length cap) := RelV.behind hφ hW hd
    refine ((steam_Table_validX_ok N t v hv).calls (X := X) (φ := φ) (vals := #[.slice A t.length cap]) rfl (fun i a hi => ?_) hφ fun b off hx => Nat.lt_of_lt_of_le (hX b off hx) hW.size).mono ?_
    · match i, hi with
      | 0, hi => cases hi; exact hrel
    · rintro e w' ⟨u, φ', rfl, hu, hb⟩
      rw [rel_lit hu]
      exact ⟨rfl, hb⟩
  · rintro e w' ⟨rfl, hb⟩
    exact ⟨_, rfl, .tup _ _ rfl fun i a hi => by
      match i, hi with
      | 0, hi => cases hi; exact .lit _
      | 1, hi => cases hi; exact .lit _, hb⟩
end Go.Proofs.Ytenpbiineblcjaa
