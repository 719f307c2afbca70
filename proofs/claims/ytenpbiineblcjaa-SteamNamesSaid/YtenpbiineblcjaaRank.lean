/-
  Contract of ranked at ints: the indexes of a list, by a key, the greatest first. At most 20 elements.
-/
import Derived.Test.YtenpbiineblcjaaRankC
namespace Go.Proofs.Ytenpbiineblcjaa
open Go.RowKit Go.Shelf

def idx (n : Nat) : List Int := (List.range n).map (fun (i : Nat) => (i : Int))
theorem idx_length (n : Nat) : (idx n).length = n := by simp [idx]
theorem idx_succ (n : Nat) : idx (n + 1) = idx n ++ [(n : Int)] := by simp [idx, List.range_succ]
theorem idx_mem {n : Nat} {x : Int} (h : x ∈ idx n) : 0 ≤ x ∧ x < n := by
  simp [idx] at h
  omega
theorem int_info : (Try.prog.info? 3).map (fun i => (i.zero, i.size, i.bytes)) = some (some (.int .i64 0), 1, 8) := by kernel_rfl

/-- A fresh slice of ints. -/
def FreshInts (B : Nat) (w : World) (v : Value) (l : List Int) : Prop :=
  (l = [] ∧ v = .slice none 0 0) ∨ ∃ g cap sp, v = .slice (some ⟨g, 0, none⟩) l.length cap ∧ B ≤ g ∧ l.length ≤ cap ∧ RowIs w g (vIs sp l)

/-- The indexes in rank. -/
def rankL (key : Int → Int) (ls : List Int) : List Int := isort (fun i k => decide (key (ls.getD k.toNat 0) - key (ls.getD i.toNat 0) < 0)) (idx ls.length)

theorem rankL_length (key : Int → Int) (ls : List Int) : (rankL key ls).length = ls.length := by rw [rankL, (isort_perm _ _).length_eq, idx_length]

set_option maxHeartbeats 1600000 in
theorem ranked_any (A : Option Addr) (c : Nat) (ls : List Int) (g : Nat) (lb : Array Value) (eg : ∀ args w, (callFunc g args).run Try.prog w = .ok (.enter g args) w) (D : Int → Prop) (key : Int → Int) (w : World)
    (hl : ls.length ≤ 20) (hr : Rds eInt w w.heap.size A ls) (hD : ∀ x ∈ ls, D x) (hkb : ∀ x ∈ ls, 0 ≤ key x ∧ key x ≤ 1000000000000)
    (hk : ∀ (W : World) (x : Int), D x → Below w.heap.size w W → Calls Try.prog g (#[.int .i64 x] ++ lb) W fun e w' => e = .returned (.int .i64 (key x)) ∧ Below W.heap.size W w') :
    Calls Try.prog 87 #[.slice A ls.length c, .func (.func g) #[] lb] w fun e w' => ∃ v, e = .returned v ∧ FreshInts w.heap.size w' v (rankL key ls) ∧ Below w.heap.size w w' := by
  obtain ⟨i0, hi, hz0, hz1, hz2⟩ := info_parts int_info
  have HALL := hide (And.intro hr (And.intro hD (And.intro hkb (And.intro hk eg))))
  clear hr hD hkb hk eg
  go_enter Try.func87, Try.ntmps87
  go_wp2
  go_loopg [5, 9] ls.length (fun gg s5 s9 wr => ∃ k : Nat, k ≤ ls.length ∧ ls.length - k ≤ gg ∧ s9 = .int .i64 k ∧ wr.ownsRow (w.heap.size + 2) 3 1 s5 k ((idx k).map (Value.int .i64)) ∧
    Aside (Below (w.heap.size + 2) ((w.alloc (.cells #[.slice A ls.length c] 51)).alloc (.cells #[.func (.func g) #[] lb] 124)) wr))
  case atStart => exact ⟨0, Nat.zero_le _, by omega, rfl, World.ownsRow_nil _ _ _ _, Below.refl _ _⟩
  case round =>
    obtain ⟨k, hk, hg, rfl, hown, BW⟩ := hrel
    by_cases hlt : k < ls.length
    · have hsz : w.heap.size + 2 ≤ wr.heap.size := by have := BW.out.size; simpa using this
      go_wp2_with (at_builtin; refine wpList_append_own _ rfl _ _ 51 rfl (w.heap.size + 2) 3 i0 (.int .i64 0) 1 8 Try.underlying51 hi hz0 hz1 hz2 rfl (by decide) _ _ _ rfl (hown.alloc _) ⟨wr.heap.size, 0, none⟩ 1 1 [.int .i64 (k : Int)] rfl rfl (cell_one_new _ _ _) (by simp [Value.oneCell']) (by unfold maxLen; omega) (by omega) (by simp; omega) ?_; intro v' w1 hown' hgrow _)
      go_roundg (ls.length - (k + 1))
      case measure => omega
      case rel =>
        refine ⟨k + 1, by omega, by omega, by go_num, ?_, (BW.out.alloc hsz _).grown hgrow (by simp; omega) (fun j hj => ?_)⟩
        · rw [idx_succ, List.map_append]
          exact hown'
        · have := hown.lt j hj
          omega
    · obtain rfl : k = ls.length := by omega
      have hsz : w.heap.size + 2 ≤ wr.heap.size := by have := BW.out.size; simpa using this
      have hbw : Below w.heap.size w wr := (((Below.refl _ _).alloc (Nat.le_refl _) _).alloc (by simp) _).trans (BW.out.mono (by omega))
      rcases hown.2 with ⟨rfl, h0⟩ | ⟨gg, cap, cur, rfl, hgg, hh, hnc, hcm, hcs, hcur⟩
      · have hls : ls = [] := List.eq_nil_of_length_eq_zero h0
        subst hls
        go_wp2_with (go_at_call 97; refine (stable_nil _ _ _ _ _).mono ?_; rintro e w2 ⟨rfl, rfl⟩)
        go_ret
        exact ⟨_, rfl, .inl ⟨rfl, rfl⟩, hbw⟩
      · obtain ⟨hr, hD, hkb, hk, eg⟩ := unhide HALL
        have eL : ∀ args w, (callFunc 98 args).run Try.prog w = .ok (.enter 98 args) w := enters_of Try.func98 (by kernel_rfl) rfl
        have hrow : RowIs wr gg (vIs (cur.toList.drop (ls.length * 1)) (idx ls.length)) := by
          refine ⟨3, ?_⟩
          have e : vIs (cur.toList.drop (ls.length * 1)) (idx ls.length) = cur := by
            unfold vIs
            rw [← hcur, List.take_append_drop]
          rw [hh, e]
        have hglt : gg < wr.heap.size := hrow.lt
        have cb1 : wr.cell? ⟨w.heap.size, 0, none⟩ = some (.slice A ls.length c) := by
          rw [BW.out.cell (p := ⟨w.heap.size, 0, none⟩) (by simp)]
          simp
        have cb0 : wr.cell? ⟨w.heap.size + 1, 0, none⟩ = some (.func (.func g) #[] lb) := by
          rw [BW.out.cell (p := ⟨w.heap.size + 1, 0, none⟩) (by simp)]
          simp
        have hcmp := rankCmp A c ls w.heap.size (w.heap.size + 1) w.heap.size gg g lb eg D key wr (by omega) (hr.below hbw (Nat.le_refl _)) (by omega) (by omega) cb0 (by omega) (by omega) cb1 (by omega) (by omega) hD hkb
          (fun W x hx hG => hk W x hx (hbw.trans ⟨hG.os, hG.tape, hG.output, hG.size, fun j hj => hG.block j (by omega) (fun e => by injection e with e; omega)⟩))
        have hsort := hide (sortStable_any gg cap _ (idx ls.length) ls.length (idx_length _).symm 98 _ eL _ _ wr hrow (by rw [idx_length]; exact hl) (fun x hx => idx_mem hx) hcmp)
        clear hcmp cb0 cb1 hrow eL hr hD hkb hk eg hh hcs hcur hown
        go_wp2_with (go_at_call 97; refine (unhide hsort).mono ?_; rintro e w2 ⟨rfl, hG, hR⟩; have HG := hide hG; have HR := hide hR; clear hG hR)
        go_ret
        refine ⟨.slice (some ⟨gg, 0, none⟩) ls.length cap, rfl, .inr ⟨gg, cap, _, by rw [rankL_length], by omega, by rw [rankL_length]; exact hnc, unhide HR⟩, hbw.grown (unhide HG) (by omega) (fun j hj => by injection hj with hj; omega)⟩
end Go.Proofs.Ytenpbiineblcjaa
