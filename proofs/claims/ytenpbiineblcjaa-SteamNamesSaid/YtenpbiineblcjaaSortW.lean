/-
  Contracts of slices' stable sort at short lists of ints: insertionSortCmpFunc, stableCmpFunc, SortStableFunc. For every comparison that answers alike in every later world; at most 20 elements.
-/
import Derived.Test.YtenpbiineblcjaaSteamE
import Derived.Test.YtenpbiineblcjaaSort
namespace Go.Proofs.Ytenpbiineblcjaa
open Go.RowKit Go.Shelf

/-- A row that begins with ints and holds sp behind them. -/
def vIs (sp : List Value) (l : List Int) : Array Value := (l.map (Value.int .i64) ++ sp).toArray
theorem vIs_get (sp : List Value) (l : List Int) (j : Nat) (h : j < l.length) : (vIs sp l)[j]? = (l[j]?).map (Value.int .i64) := by
  simp [vIs, List.getElem?_append, h]
theorem vIs_set (sp : List Value) (l : List Int) (j : Nat) (x : Int) (h : j < l.length) : (vIs sp l).setIfInBounds j (.int .i64 x) = vIs sp (l.set j x) := by
  simp [vIs, List.map_set, h]

/-- A comparison (function g, with what it has captured): at elements of D it answers c x y, wherever all but block r lies as it lay in w. -/
def Cmps (P : Program) (g : Nat) (lb : Array Value) (D : Int → Prop) (c : Int → Int → Int) (r : Nat) (w : World) : Prop :=
  ∀ (W : World) (x y : Int), D x → D y → w.grownBy W (some r) → Calls P g (#[.int .i64 x, .int .i64 y] ++ lb) W fun e w' => e = .returned (.int .i64 (c x y)) ∧ Below W.heap.size W w'

theorem grown_below {w W W' : World} {row : Option Nat} (h : w.grownBy W row) (hb : Below W.heap.size W W') : w.grownBy W' row :=
  ⟨hb.os.trans h.os, hb.tape.trans h.tape, hb.output.trans h.output, Nat.le_trans h.size hb.size, fun i hi hne => (hb.block i (Nat.lt_of_lt_of_le hi h.size)).trans (h.block i hi hne)⟩
theorem grown_setRow {w W : World} {r : Nat} (h : w.grownBy W (some r)) (cs : Array Value) : w.grownBy (W.setRow r cs) (some r) :=
  ⟨h.os, h.tape, h.output, by simpa using h.size, fun i hi hne => (setRow_other W r i cs (fun e => hne (by rw [e]))).trans (h.block i hi hne)⟩
theorem grown_drew {w W : World} {row : Option Nat} (h : w.grownBy W row) : w.grownBy W.drew row := ⟨h.os, h.tape, h.output, h.size, h.block⟩

theorem grown_drewN {w W : World} {row : Option Nat} (h : w.grownBy W row) (n : Nat) : w.grownBy (W.drewN n) row := ⟨h.os, h.tape, h.output, h.size, h.block⟩

set_option maxHeartbeats 1600000 in
theorem insertion_any (r cap : Nat) (sp : List Value) (l : List Int) (n : Nat) (hn : n = l.length) (g : Nat) (lb : Array Value) (eg : ∀ args w, (callFunc g args).run Try.prog w = .ok (.enter g args) w) (D : Int → Prop) (c : Int → Int → Int) (w : World)
    (hr : RowIs w r (vIs sp l)) (hl : l.length ≤ 1000) (hD : ∀ x ∈ l, D x) (hc : Cmps Try.prog g lb D c r w) :
    Calls Try.prog 101 #[.slice (some ⟨r, 0, none⟩) n cap, .int .i64 0, .int .i64 n, .func (.func g) #[] lb] w fun e w' => e = .returned (.tuple #[]) ∧ w.grownBy w' (some r) ∧ RowIs w' r (vIs sp (isort (fun x y => decide (c x y < 0)) l)) := by
  have HN := Lib.hid hn
  have hn' : n ≤ 1000 := by omega
  have hrr := hr.lt
  obtain ⟨u0, hu0, hi0, hg0⟩ := graft1 (fun W => w.grownBy W (some r)) hr (World.grownBy.refl w _)
  have HU := hide hu0
  clear hu0 hn
  go_enter Try.func101, Try.ntmps101
  go_wp2
  have hlt1 : ∀ (k : Nat) (x : Int), l[k]? = some x → D x := fun k x hx => hD x (List.mem_of_getElem? hx)
  have HD := hide hD
  have HC := hide hc
  clear hD hc
  go_loopg [8] n (fun gg s8 wr => ∃ (i : Nat) (u : World), 1 ≤ i ∧ i ≤ n + 1 ∧ n - i ≤ gg ∧ s8 = .int .i64 i ∧ wr = u.setRow r (vIs sp ((isortR (fun x y => decide (c x y < 0)) (l.take i)).reverse ++ l.drop i)) ∧ IsRow u r ∧ Aside (w.grownBy u (some r)))
  case atStart =>
    refine ⟨1, u0, by omega, by omega, by omega, rfl, ?_, hi0, hg0⟩
    have e : (isortR (fun x y => decide (c x y < 0)) (l.take 1)).reverse ++ l.drop 1 = l := by
      cases l with
      | nil => rfl
      | cons x l => simp [isortR, insDown]
    rw [e]
    exact unhide HU
  case round =>
    obtain ⟨i, u, h1, h2, hg, rfl, rfl, hu, G⟩ := hrel
    by_cases hlt : i < n
    · have hx : l[i]? = some (l[i]'(by rw [← HN.out]; exact hlt)) := List.getElem?_eq_getElem _
      generalize l[i]'(by rw [← HN.out]; exact hlt) = x at hx
      have hDx : D x := hlt1 i x hx
      have hdrop : l.drop i = x :: l.drop (i + 1) := List.drop_eq_getElem?_toList_append.trans (by rw [hx]; rfl)
      have htake : l.take (i + 1) = l.take i ++ [x] := by rw [List.take_add_one, hx]; rfl
      have HX := hide hx
      have HDR := hide hdrop
      have HT := hide htake
      clear hx hdrop htake hlt1
      have hpl : (isortR (fun x y => decide (c x y < 0)) (l.take i)).length = i := by rw [isortR_length, List.length_take, ← HN.out]; omega
      have hpD : ∀ y ∈ isortR (fun x y => decide (c x y < 0)) (l.take i), D y := fun y hy => unhide HD y (List.mem_of_mem_take ((isortR_perm _ _).mem_iff.1 hy))
      have HPD := hide hpD
      have HPL := hide hpl
      clear hpl hpD
      go_wp2_with fail
      go_loopg [9] i (fun gg s9 wr => ∃ (m j : Nat) (u : World), m + j = i ∧ j ≤ gg ∧ s9 = .int .i64 j ∧ wr = u.setRow r (vIs sp (((isortR (fun x y => decide (c x y < 0)) (l.take i)).drop m).reverse ++ x :: (((isortR (fun x y => decide (c x y < 0)) (l.take i)).take m).reverse ++ l.drop (i + 1)))) ∧ IsRow u r ∧ Aside (w.grownBy u (some r)) ∧
        Aside (∀ y ∈ (isortR (fun x y => decide (c x y < 0)) (l.take i)).take m, decide (c x y < 0) = true))
      case atStart => exact ⟨0, i, u, by omega, by omega, rfl, by rw [unhide HDR]; simp, hu, G, (show Aside _ from fun y hy => by simp at hy)⟩
      case round =>
        obtain ⟨m, j, u, hmj, hgj, rfl, rfl, hu, G, N⟩ := hrel
        by_cases hj : 0 < j
        · obtain ⟨j, rfl⟩ : ∃ k, j = k + 1 := ⟨j - 1, by omega⟩
          have hpl := unhide HPL
          have hDp := unhide HPD
          obtain ⟨y, q, hq⟩ : ∃ y q, (isortR (fun x y => decide (c x y < 0)) (l.take i)).drop m = y :: q := by
            cases e : (isortR (fun x y => decide (c x y < 0)) (l.take i)).drop m with
            | nil => have := congrArg List.length e; rw [List.length_drop] at this; simp at this; omega
            | cons y q => exact ⟨y, q, rfl⟩
          have hql : q.length = j := by have := congrArg List.length hq; rw [List.length_drop] at this; simp at this; omega
          have hDy : D y := hDp y (List.mem_of_mem_drop (by rw [hq]; simp))
          have HQ := hide hq
          rw [hq]
          clear hpl hDp hq
          obtain ⟨t, ht⟩ : ∃ t, t = ((isortR (fun x y => decide (c x y < 0)) (l.take i)).take m).reverse ++ l.drop (i + 1) := ⟨_, rfl⟩
          rw [← ht]
          have HTT := hide ht
          clear ht
          have hd : (y :: q).reverse ++ x :: t = q.reverse ++ y :: x :: t := by simp
          rw [hd]
          clear hd
          have hcx : (vIs sp (q.reverse ++ y :: x :: t))[j + 1]? = some (.int .i64 x) := by rw [vIs_get _ _ _ (by simp; omega)]; simp [← hql]
          have hcy : (vIs sp (q.reverse ++ y :: x :: t))[j]? = some (.int .i64 y) := by rw [vIs_get _ _ _ (by simp; omega)]; simp [← hql]
          have hsw : vIs sp (((q.reverse ++ y :: x :: t).set (j + 1) y).set j x) = vIs sp (q.reverse ++ x :: y :: t) := by
            have := sink_swap q.reverse y x t
            rw [List.length_reverse, hql] at this
            rw [this]
          have HSW := hide hsw
          have HQL := hide hql
          clear hsw hql
          obtain ⟨d, hd⟩ : ∃ d, d = q.reverse ++ y :: x :: t := ⟨_, rfl⟩
          rw [← hd] at hcx hcy HSW ⊢
          have HDD := hide hd
          clear hd
          have hw1 : IntKind.i64.wrap ((j : Int) + 1 - 1) = j := by rw [IntKind.wrap_i64]; omega
          have hw2 : IntKind.i64.wrap (j : Int) = j := by rw [IntKind.wrap_i64]; omega
          have hj1 : (j : Int) + 1 < n := by omega
          have hj2 : (j : Int) < n := by omega
          have hj3 : j + 1 < n := by omega
          have hj4 : j < n := by omega
          have hj5 : (0 : Int) ≤ (j : Int) + 1 := by omega
          have hj6 : (0 : Int) < (j : Int) + 1 := by omega
          have hj7 : ((j : Int) + 1).toNat = j + 1 := by omega
          have hur := hu.lt
          have hcall := hide (fun (W : World) (h : w.grownBy W (some r)) => unhide HC W x y hDx hDy h)
          cases hcc : decide (c x y < 0) with
          | true =>
            have hcn : c x y < 0 := by simpa using hcc
            go_wp2_with fail
            go_region_held3 (fun W => W.cell? ⟨r, j + 1, none⟩ = some (.int .i64 x) ∧ W.cell? ⟨r, j, none⟩ = some (.int .i64 y)) (go_simp)
              (first | (go_at_fn g; refine (unhide hcall _ (grown_drew (grown_setRow G.out _))).mono ?_; rintro e w4 ⟨rfl, hb4⟩; obtain ⟨v, rfl, hv, hgv⟩ := graft1 (fun W => w.grownBy W (some r)) (((RowIs.same hu (vIs sp d)).drew).below hb4 (by simpa using hur)) (grown_below (grown_drew (grown_setRow G.out _)) hb4); clear hb4; have hvr := hv.lt))
            go_wp2_with fail
            go_region
            go_wp2_with fail
            go_roundg j
            case measure => omega
            case rel =>
              have hq := unhide HQ
              have hql := unhide HQL
              have hdr : (isortR (fun x y => decide (c x y < 0)) (l.take i)).drop (m + 1) = q := by rw [← List.drop_drop, hq]; rfl
              have htk : (isortR (fun x y => decide (c x y < 0)) (l.take i)).take (m + 1) = (isortR (fun x y => decide (c x y < 0)) (l.take i)).take m ++ [y] := by
                rw [List.take_add_one]
                have : (isortR (fun x y => decide (c x y < 0)) (l.take i))[m]? = some y := by
                  have := congrArg (fun z => z[0]?) hq
                  simpa using this
                rw [this]; rfl
              refine ⟨m + 1, j, v.drew, by omega, Nat.le_refl _, rfl, ?_, hv, grown_drew hgv, (show Aside _ from fun z hz => ?_)⟩
              · rw [hdr, htk]
                have e : (q.reverse ++ x :: (((isortR (fun x y => decide (c x y < 0)) (l.take i)).take m ++ [y]).reverse ++ l.drop (i + 1))) = q.reverse ++ x :: y :: t := by rw [unhide HTT]; simp
                have hdl : j + 1 < d.length := by rw [unhide HDD]; simp; omega
                rw [e, ← unhide HSW]
                show (v.setRow r _).drew = (v.setRow r _).drew
                rw [vIs_set _ _ _ _ hdl, vIs_set _ _ _ _ (by simp; omega)]
              · rw [htk] at hz
                rcases List.mem_append.1 hz with h | h
                · exact N.out z h
                · simp at h; subst h; exact hcc
          | false =>
            have hcn : ¬ c x y < 0 := by simpa using hcc
            go_wp2_with fail
            go_region_held3 (fun W => W.cell? ⟨r, j + 1, none⟩ = some (.int .i64 x) ∧ W.cell? ⟨r, j, none⟩ = some (.int .i64 y)) (go_simp)
              (first | (go_at_fn g; refine (unhide hcall _ (grown_drew (grown_setRow G.out _))).mono ?_; rintro e w4 ⟨rfl, hb4⟩; obtain ⟨v, rfl, hv, hgv⟩ := graft1 (fun W => w.grownBy W (some r)) (((RowIs.same hu (vIs sp d)).drew).below hb4 (by simpa using hur)) (grown_below (grown_drew (grown_setRow G.out _)) hb4); clear hb4; have hvr := hv.lt))
            go_wp2_with fail
            go_roundg (n - (i + 1))
            case measure => omega
            case rel =>
              refine ⟨i + 1, v, by omega, by omega, Nat.le_refl _, by go_num, ?_, hv, hgv⟩
              rw [unhide HT, isortR_snoc]
              have hq := unhide HQ
              have hql := unhide HQL
              rw [insDown_stop _ x m _ N.out (fun z hz => by
                have h1 := congrArg (fun z => z[0]?) hq
                have h2 : (isortR (fun x y => decide (c x y < 0)) (l.take i))[m]? = some y := by simpa using h1
                rw [h2] at hz
                cases hz
                exact hcc) (by rw [unhide HPL]; omega), unhide HDD, hq, unhide HTT]
              simp
        · obtain rfl : j = 0 := by omega
          have hpl := unhide HPL
          have hnil : (isortR (fun x y => decide (c x y < 0)) (l.take i)).drop m = [] := List.drop_eq_nil_of_le (by omega)
          rw [hnil]
          have HNIL := hide hnil
          clear hpl hnil hj
          obtain ⟨t, ht⟩ : ∃ t, t = (((isortR (fun x y => decide (c x y < 0)) (l.take i)).take m).reverse ++ l.drop (i + 1)) := ⟨_, rfl⟩
          rw [← ht]
          have HTT := hide ht
          clear ht
          have hur := hu.lt
          rw [show ((0 : Nat) : Int) = 0 from rfl]
          go_wp2_with fail
          go_quiet (fail)
          go_wp2_with fail
          go_roundg (n - (i + 1))
          case measure => omega
          case rel =>
            refine ⟨i + 1, u.drewN nq, by omega, by omega, Nat.le_refl _, by go_num, ?_, hu, grown_drewN G.out nq⟩
            rw [unhide HT, isortR_snoc, insDown_stop _ x m _ N.out (fun z hz => by
              rw [List.getElem?_eq_none (by rw [unhide HPL]; omega)] at hz
              cases hz) (by rw [unhide HPL]; omega), unhide HNIL, unhide HTT]
            show (u.setRow r _).drewN nq = (u.setRow r _).drewN nq
            simp
    · go_wp2_with fail
      refine bodyPost_end (results_none rfl _ _ _) rfl ⟨rfl, grown_setRow G.out _, ?_⟩
      have : isort (fun x y => decide (c x y < 0)) l = (isortR (fun x y => decide (c x y < 0)) (l.take i)).reverse ++ l.drop i := by
        have := HN.out
        rw [List.take_of_length_le (by omega), List.drop_eq_nil_of_le (by omega)]
        simp [isort]
      rw [this]
      exact RowIs.same hu _
end Go.Proofs.Ytenpbiineblcjaa
