/-
  Contracts of slices.SortStableFunc at lists of at most 20 ints.
-/
import Derived.Test.YtenpbiineblcjaaSortW
namespace Go.Proofs.Ytenpbiineblcjaa
open Go.RowKit Go.Shelf

theorem insertion_none (r cap n : Nat) (g : Nat) (lb : Array Value) (w : World) (hn : n = 20) :
    Calls Try.prog 101 #[.slice (some ⟨r, 0, none⟩) n cap, .int .i64 20, .int .i64 n, .func (.func g) #[] lb] w fun e w' => e = .returned (.tuple #[]) ∧ w = w' := by
  subst hn
  go_enter Try.func101, Try.ntmps101
  go_wp2
  refine wp_loop_rounds 1 ?_
  rw [rounds_succ]
  go_wp2
  refine bodyPost_end (results_none rfl _ _ _) rfl ⟨rfl, rfl⟩

set_option maxHeartbeats 800000 in
theorem stable_any (r cap : Nat) (sp : List Value) (l : List Int) (n : Nat) (hn : n = l.length) (g : Nat) (lb : Array Value) (eg : ∀ args w, (callFunc g args).run Try.prog w = .ok (.enter g args) w) (D : Int → Prop) (c : Int → Int → Int) (w : World)
    (hr : RowIs w r (vIs sp l)) (hl : l.length ≤ 20) (hD : ∀ x ∈ l, D x) (hc : Cmps Try.prog g lb D c r w) :
    Calls Try.prog 100 #[.slice (some ⟨r, 0, none⟩) n cap, .int .i64 n, .func (.func g) #[] lb] w fun e w' => e = .returned (.tuple #[]) ∧ w.grownBy w' (some r) ∧ RowIs w' r (vIs sp (isort (fun x y => decide (c x y < 0)) l)) := by
  have H := hide (insertion_any r cap sp l n hn g lb eg D c w hr (by omega) hD hc)
  have H0 := hide (fun (h : n = 20) (W : World) => insertion_none r cap n g lb W h)
  have hn2 : n ≤ 20 := by omega
  clear hr hD hc hn hl eg
  by_cases h20 : n = 20
  · subst h20
    have H0' := hide (unhide H0 rfl)
    clear H0
    go_enter Try.func100, Try.ntmps100
    go_wp2_with fail
    refine wp_loop_rounds 2 ?_
    rw [rounds_succ]
    go_wp2_with fail
    refine (unhide H).mono ?_
    rintro e w1 ⟨rfl, hg, hrr⟩
    have HG := hide hg
    have HR := hide hrr
    clear hg hrr
    go_wp2_with fail
    rw [rounds_succ]
    go_wp2_with fail
    refine (unhide H0' _).mono ?_
    rintro e w2 ⟨rfl, rfl⟩
    go_wp2_with fail
    refine wp_loop_rounds 1 ?_
    rw [rounds_succ]
    go_wp2_with fail
    refine bodyPost_end (results_none rfl _ _ _) rfl ⟨rfl, unhide HG, unhide HR⟩
  · have h20' : n < 20 := by omega
    go_enter Try.func100, Try.ntmps100
    go_wp2_with fail
    refine wp_loop_rounds 1 ?_
    rw [rounds_succ]
    go_wp2_with fail
    refine (unhide H).mono ?_
    rintro e w1 ⟨rfl, hg, hrr⟩
    have HG := hide hg
    have HR := hide hrr
    clear hg hrr
    go_wp2_with fail
    refine wp_loop_rounds 1 ?_
    rw [rounds_succ]
    go_wp2_with fail
    refine bodyPost_end (results_none rfl _ _ _) rfl ⟨rfl, unhide HG, unhide HR⟩

theorem sortStable_any (r cap : Nat) (sp : List Value) (l : List Int) (n : Nat) (hn : n = l.length) (g : Nat) (lb : Array Value) (eg : ∀ args w, (callFunc g args).run Try.prog w = .ok (.enter g args) w) (D : Int → Prop) (c : Int → Int → Int) (w : World)
    (hr : RowIs w r (vIs sp l)) (hl : l.length ≤ 20) (hD : ∀ x ∈ l, D x) (hc : Cmps Try.prog g lb D c r w) :
    Calls Try.prog 97 #[.slice (some ⟨r, 0, none⟩) n cap, .func (.func g) #[] lb] w fun e w' => e = .returned (.tuple #[]) ∧ w.grownBy w' (some r) ∧ RowIs w' r (vIs sp (isort (fun x y => decide (c x y < 0)) l)) := by
  have H := hide (stable_any r cap sp l n hn g lb eg D c w hr hl hD hc)
  clear hr hD hc hn hl eg
  go_enter Try.func97, Try.ntmps97
  go_wp2_with fail
  refine (unhide H).mono ?_
  rintro e w1 ⟨rfl, hg, hrr⟩
  have HG := hide hg
  have HR := hide hrr
  clear hg hrr
  go_wp2_with fail
  refine bodyPost_end (results_none rfl _ _ _) rfl ⟨rfl, unhide HG, unhide HR⟩

/-- On nothing at all. -/
theorem stable_nil (A : Option Addr) (cap : Nat) (g : Nat) (lb : Array Value) (w : World) :
    Calls Try.prog 97 #[.slice A 0 cap, .func (.func g) #[] lb] w fun e w' => e = .returned (.tuple #[]) ∧ w = w' := by
  have H : Hid (∀ (W : World), Calls Try.prog 101 #[.slice A 0 cap, .int .i64 0, .int .i64 0, .func (.func g) #[] lb] W fun e w' => e = .returned (.tuple #[]) ∧ W = w') := by
    intro W
    go_enter Try.func101, Try.ntmps101
    go_wp2
    refine wp_loop_rounds 1 ?_
    rw [rounds_succ]
    go_wp2
    refine bodyPost_end (results_none rfl _ _ _) rfl ⟨rfl, rfl⟩
  have H1 : Hid (∀ (W : World), Calls Try.prog 100 #[.slice A 0 cap, .int .i64 0, .func (.func g) #[] lb] W fun e w' => e = .returned (.tuple #[]) ∧ W = w') := by
    intro W
    go_enter Try.func100, Try.ntmps100
    go_wp2_with fail
    refine wp_loop_rounds 1 ?_
    rw [rounds_succ]
    go_wp2_with fail
    refine (unhide H _).mono ?_
    rintro e w1 ⟨rfl, rfl⟩
    go_wp2_with fail
    refine wp_loop_rounds 1 ?_
    rw [rounds_succ]
    go_wp2_with fail
    refine bodyPost_end (results_none rfl _ _ _) rfl ⟨rfl, rfl⟩
  clear H
  go_enter Try.func97, Try.ntmps97
  go_wp2_with fail
  refine (unhide H1 _).mono ?_
  rintro e w1 ⟨rfl, rfl⟩
  go_wp2_with fail
  refine bodyPost_end (results_none rfl _ _ _) rfl ⟨rfl, rfl⟩
end Go.Proofs.Ytenpbiineblcjaa
