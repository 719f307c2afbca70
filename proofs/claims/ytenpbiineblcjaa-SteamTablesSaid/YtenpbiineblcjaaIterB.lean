/-
  The library's slices.Backward at the rows of a table: its contract for whatever loop body keeps what lay before the loop.
-/
import Derived.Test.YtenpbiineblcjaaX1
import Derived.Test.YtenpbiineblcjaaEngO
import Derived.RangeFuncNested
import Derived.RangeFuncBound
import Derived.RangeFuncCalls
import Derived.RangeFuncLeaves
import Derived.RangeFuncBox
import Derived.Shelf.Abstract
import Derived.OwnWalkIn
import Derived.TacticsInMore
import Derived.LoopNIn
import Derived.LoopIn
namespace Go.Proofs.Ytenpbiineblcjaa
open Go.RowKit Go.Shelf
attribute [local go_sem] Oper.semAt_some

def rowV (r : GRow) : Value := .agg #[.int .i64 r.T, .int .i64 r.P, .int .i64 r.Liquid, .int .i64 r.Vapour, .int .i64 r.Silica]

/-- A slice that reads as rows, in a block below n₀. -/
def Rows (n₀ : Nat) (w : World) (A : Option Addr) (t : List GRow) : Prop :=
  0 < t.length → ∃ b o, A = some ⟨b, o, none⟩ ∧ b < n₀ ∧ ∀ j x, t[j]? = some x → ∀ i u, (c_GRow x)[i]? = some (.lit u) → w.cell? ⟨b, o + j * 5 + i, none⟩ = some u
theorem Rows.below {n₀ : Nat} {w w' : World} {A : Option Addr} {t : List GRow} (h : Rows n₀ w A t) (hb : Below n₀ w w') : Rows n₀ w' A t := fun hn => by
  obtain ⟨b, o, hA, hlt, hc⟩ := h hn
  exact ⟨b, o, hA, hlt, fun j x hx i u hu => (hb.cell (p := ⟨b, o + j * 5 + i, none⟩) hlt).trans (hc j x hx i u hu)⟩
theorem Rows.more {n₀ n₁ : Nat} {w : World} {A : Option Addr} {t : List GRow} (h : Rows n₀ w A t) (hn : n₀ ≤ n₁) : Rows n₁ w A t := fun hl => by
  obtain ⟨b, o, hA, hlt, hc⟩ := h hl
  exact ⟨b, o, hA, Nat.lt_of_lt_of_le hlt hn, hc⟩
theorem Rows.at {n₀ : Nat} {w : World} {A : Option Addr} {t : List GRow} (h : Rows n₀ w A t) {k : Nat} {r : GRow} (hk : t[k]? = some r) : ∃ b o, A = some ⟨b, o, none⟩ ∧ b < n₀ ∧
    w.cell? ⟨b, o + k * 5, none⟩ = some (.int .i64 r.T) ∧ w.cell? ⟨b, o + k * 5 + 1, none⟩ = some (.int .i64 r.P) ∧ w.cell? ⟨b, o + k * 5 + 2, none⟩ = some (.int .i64 r.Liquid) ∧ w.cell? ⟨b, o + k * 5 + 3, none⟩ = some (.int .i64 r.Vapour) ∧ w.cell? ⟨b, o + k * 5 + 4, none⟩ = some (.int .i64 r.Silica) := by
  obtain ⟨b, o, hA, hb, hc⟩ := h (by have := (List.getElem?_eq_some_iff.1 hk).1; omega)
  exact ⟨b, o, hA, hb, hc k r hk 0 _ rfl, hc k r hk 1 _ rfl, hc k r hk 2 _ rfl, hc k r hk 3 _ rfl, hc k r hk 4 _ rfl⟩

/-- What has come when m are left: from the last one down. -/
def came (t : List GRow) (m : Nat) : List (Nat × GRow) := ((List.range' m (t.length - m)).reverse).map fun j => (j, t[j]?.getD ⟨0, 0, 0, 0, 0⟩)
theorem came_start (t : List GRow) : came t t.length = [] := by simp [came]
theorem came_succ (t : List GRow) {m : Nat} (h : m < t.length) : came t m = came t (m + 1) ++ [(m, t[m]?.getD ⟨0, 0, 0, 0, 0⟩)] := by
  have e : t.length - m = (t.length - (m + 1)) + 1 := by omega
  rw [came, came, e, List.range'_succ]
  simp
theorem came_length (t : List GRow) (m : Nat) : (came t m).length = t.length - m := by simp [came]
theorem came_mem {t : List GRow} {m : Nat} {p : Nat × GRow} : p ∈ came t m ↔ m ≤ p.1 ∧ t[p.1]? = some p.2 := by
  simp only [came, List.mem_map, List.mem_reverse, List.mem_range'_1]
  constructor
  · rintro ⟨j, ⟨h1, h2⟩, rfl⟩
    have hlt : j < t.length := by omega
    exact ⟨h1, by simp [hlt]⟩
  · rintro ⟨h1, h2⟩
    have hlt := (List.getElem?_eq_some_iff.1 h2).1
    exact ⟨p.1, ⟨h1, by omega⟩, by rw [h2]; rfl⟩

set_option maxRecDepth 100000 in
set_option maxHeartbeats 2000000 in
/-- The closure that Backward gives. -/
theorem back1_in (F : Fence) (n : Nat) (hF : F.fn 91) (hro : F.round = none) (hn : 1 ≤ n) (l Bs n₀ : Nat) (A : Option Addr) (cap : Nat) (t : List GRow) (hBn : Bs < n₀) (hlen : t.length ≤ 20) (J Jx : List (Nat × GRow) → World → Prop)
    (hY : ∀ pre x W, J pre W → pre.length < t.length → YieldAt F (n - 1) Try.prog l #[.int .i64 (x.1 : Int), rowV x.2] W fun e W' =>
      (e = .returned (.bool true) ∧ J (pre ++ [x]) W' ∧ Below n₀ W W') ∨ (e = .returned (.bool false) ∧ Jx (pre ++ [x]) W'))
    (W : World) (hBs : W.cell? ⟨Bs, 0, none⟩ = some (.slice A t.length cap)) (hR : Rows n₀ W A t) (h0 : J [] W) :
    CallsIn F n Try.prog 91 #[.func (.yield l) #[] #[], .pointer (some ⟨Bs, 0, none⟩)] W fun e W' => (∃ v, e = .returned v) ∧
      ((∃ ys, ys = came t 0 ∧ J ys W') ∨ (∃ pre, (∃ m, m < t.length ∧ pre = came t m) ∧ Jx pre W')) := by
  refine callsIn_of_wp Try.func91 rfl hF ?_ hro
  simp only [Try.ntmps91, List.size_toArray, List.length_cons, List.length_nil, Nat.reduceAdd, Nat.reduceSub, Array.replicate_succ, Array.replicate_zero, List.push_toArray, List.append_toArray, List.nil_append, List.cons_append]
  gi_wp2
  gi_loopw [3] (fun i wr => ∃ m : Nat, m ≤ t.length ∧ i = .int .i64 ((m : Int) - 1) ∧ J (came t m) wr ∧ Below n₀ W wr)
    (fun i _ => (intOf i + 1).toNat)
  case atStart => exact ⟨t.length, Nat.le_refl _, rfl, by rw [came_start]; exact h0, Below.refl _ _⟩
  case round =>
    obtain ⟨m, hm, rfl, hJs, hnx⟩ := hrel
    have hBs' := (hnx.cell (p := ⟨Bs, 0, none⟩) hBn).trans hBs
    cases m with
    | zero =>
      gi_wp2
      go_end0
      exact ⟨⟨_, rfl⟩, .inl ⟨_, rfl, hJs⟩⟩
    | succ m =>
      have hlt : m < t.length := by omega
      have hx : t[m]? = some t[m] := List.getElem?_eq_getElem hlt
      obtain ⟨b, o, rfl, hb, c0, c1, c2, c3, c4⟩ := (hR.below hnx).at hx
      obtain ⟨fn, tmps, assign, body, hy, hRd⟩ := hY _ (m, t[m]) wr hJs (by rw [came_length]; omega)
      have e1 : (((m + 1 : Nat) : Int) - 1) = (m : Int) := by omega
      have hm0 : (0 : Int) ≤ (m : Int) := by omega
      rw [e1]
      dsimp only [rowV] at hy
      gi_wp2
      have ec : came t m = came t (m + 1) ++ [(m, t[m])] := by rw [came_succ t hlt, hx]; rfl
      refine hRd.mono ?_
      rintro e W3 (⟨rfl, hJ3, hk3⟩ | ⟨rfl, hJx3⟩)
      · gi_wp2
        go_roundw
        case rel => exact ⟨m, by omega, rfl, by rw [ec]; exact hJ3, hnx.trans hk3⟩
        case measure => simp [intOf]
      · gi_wp2
        refine bodyPost_ret (results_none rfl _ _ _) rfl ?_
        exact ⟨⟨_, rfl⟩, .inr ⟨_, ⟨m, hlt, rfl⟩, by rw [ec]; exact hJx3⟩⟩

set_option maxHeartbeats 1000000 in
/-- slices.Backward: the slice is boxed; the function value captures the box. -/
theorem back_in (F : Fence) (n : Nat) (hF : F.fn 77) (hro : F.round = none) (a : Option Addr) (len cap : Nat) (w : World) :
    CallsIn F n Try.prog 77 #[.slice a len cap] w fun e w' => e = .returned (.func (.func 91) #[] #[.pointer (some ⟨w.heap.size, 0, none⟩)]) ∧ w' = w.alloc (.cells #[.slice a len cap] 30) := by
  refine callsIn_of_wp Try.func77 rfl hF ?_ hro
  simp only [Try.ntmps77, List.size_toArray, List.length_cons, List.length_nil, Nat.reduceAdd, Nat.reduceSub, Array.replicate_succ, Array.replicate_zero, List.push_toArray, List.append_toArray, List.nil_append, List.cons_append]
  gi_wp2
  go_ret
  exact ⟨rfl, rfl⟩

theorem back_stops (F : Fence) (n : Nat) (hF : F.fn 91) (hro : F.round = none) (hn : 1 ≤ n) (Bs n₀ : Nat) (A : Option Addr) (cap : Nat) (t : List GRow) (hlen : t.length ≤ 20) (w : World) (hBs : Bs < n₀) (hn₀ : n₀ ≤ w.heap.size)
    (hc : w.cell? ⟨Bs, 0, none⟩ = some (.slice A t.length cap)) (hR : Rows n₀ w A t) :
    SeqStopsK F n Try.prog 91 #[.pointer (some ⟨Bs, 0, none⟩)] (fun x : Nat × GRow => #[Value.int .i64 (x.1 : Int), rowV x.2]) (Below n₀) (fun ys => ys = came t 0) (fun pre => ∃ m, m < t.length ∧ pre = came t m) t.length w := fun l J Jx W hW _ _ hY h0 =>
  back1_in F n hF hro hn l Bs n₀ A cap t hBs hlen J Jx hY W (((hW.mono hn₀).cell (p := ⟨Bs, 0, none⟩) hBs).trans hc) (hR.below (hW.mono hn₀)) h0

end Go.Proofs.Ytenpbiineblcjaa
