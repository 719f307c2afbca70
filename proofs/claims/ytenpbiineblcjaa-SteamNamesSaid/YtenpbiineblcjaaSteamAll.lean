/-
  The small functions of layer 1 that go over lists: slices.IndexFunc, slices.ContainsFunc and all, at the types that occur. No conditions.
-/
import Derived.Test.YtenpbiineblcjaaGraft
namespace Go.Proofs.Ytenpbiineblcjaa
open Go.RowKit Go.Shelf

def eRow : Enc RowT := ⟨5, fun r => [.int .i64 r.T, .int .i64 r.P, .int .i64 r.L, .int .i64 r.V, .int .i64 r.S], fun _ => rfl⟩
def eStr : Enc StrT := ⟨4, fun s => [.int .i64 s.M, .int .i64 s.H, .int .i64 s.S, .int .i64 s.G], fun _ => rfl⟩
def ePart : Enc PartT := ⟨10, fun p => [.int .i64 p.st.M, .int .i64 p.st.H, .int .i64 p.st.S, .int .i64 p.st.G, .int .i64 p.wa.M, .int .i64 p.wa.H, .int .i64 p.wa.S, .int .i64 p.wa.G, .int .i64 p.rest, .int .i64 p.scale], fun _ => rfl⟩
def eInt : Enc Int := ⟨1, fun n => [.int .i64 n], fun _ => rfl⟩

theorem rdsRow {w : World} {B : Nat} {A : Option Addr} {zs : List RowT} (h : Rds eRow w B A zs) {k : Nat} {r : RowT} (hk : zs[k]? = some r) : ∃ b o, A = some ⟨b, o, none⟩ ∧ b < B ∧
    w.cell? ⟨b, o + k * 5, none⟩ = some (.int .i64 r.T) ∧ w.cell? ⟨b, o + k * 5 + 1, none⟩ = some (.int .i64 r.P) ∧ w.cell? ⟨b, o + k * 5 + 2, none⟩ = some (.int .i64 r.L) ∧ w.cell? ⟨b, o + k * 5 + 3, none⟩ = some (.int .i64 r.V) ∧ w.cell? ⟨b, o + k * 5 + 4, none⟩ = some (.int .i64 r.S) := by
  obtain ⟨b, o, hA, hb, hc⟩ := h (by have := (List.getElem?_eq_some_iff.1 hk).1; omega)
  exact ⟨b, o, hA, hb, hc k r hk 0 _ rfl, hc k r hk 1 _ rfl, hc k r hk 2 _ rfl, hc k r hk 3 _ rfl, hc k r hk 4 _ rfl⟩

theorem rdsStr {w : World} {B : Nat} {A : Option Addr} {zs : List StrT} (h : Rds eStr w B A zs) {k : Nat} {r : StrT} (hk : zs[k]? = some r) : ∃ b o, A = some ⟨b, o, none⟩ ∧ b < B ∧
    w.cell? ⟨b, o + k * 4, none⟩ = some (.int .i64 r.M) ∧ w.cell? ⟨b, o + k * 4 + 1, none⟩ = some (.int .i64 r.H) ∧ w.cell? ⟨b, o + k * 4 + 2, none⟩ = some (.int .i64 r.S) ∧ w.cell? ⟨b, o + k * 4 + 3, none⟩ = some (.int .i64 r.G) := by
  obtain ⟨b, o, hA, hb, hc⟩ := h (by have := (List.getElem?_eq_some_iff.1 hk).1; omega)
  exact ⟨b, o, hA, hb, hc k r hk 0 _ rfl, hc k r hk 1 _ rfl, hc k r hk 2 _ rfl, hc k r hk 3 _ rfl⟩

theorem rdsInt {w : World} {B : Nat} {A : Option Addr} {zs : List Int} (h : Rds eInt w B A zs) {k : Nat} {r : Int} (hk : zs[k]? = some r) : ∃ b o, A = some ⟨b, o, none⟩ ∧ b < B ∧
    w.cell? ⟨b, o + k, none⟩ = some (.int .i64 r) := by
  obtain ⟨b, o, hA, hb, hc⟩ := h (by have := (List.getElem?_eq_some_iff.1 hk).1; omega)
  exact ⟨b, o, hA, hb, by have := hc k r hk 0 _ rfl; simpa [eInt] using this⟩

set_option maxHeartbeats 400000 in
theorem indexRow (A : Option Addr) (c : Nat) (zs : List RowT) (D : RowT → Prop) (p : RowT → Bool) (g : Nat) (lb : Array Value) (eg : ∀ args w, (callFunc g args).run Try.prog w = .ok (.enter g args) w) (w : World)
    (hr : Rds eRow w w.heap.size A zs) (hl : zs.length ≤ 9223372036854775807) (hD : ∀ x ∈ zs, D x) (hp : Asks Try.prog g lb eRow Vagg D p w) :
    Calls Try.prog 99 #[.slice A zs.length c, .func (.func g) #[] lb] w fun e w' => e = .returned (.int .i64 (findFrom p zs 0)) ∧ Below w.heap.size w w' := by
  go_enter Try.func99, Try.ntmps99
  go_wp2
  go_loopg [5, 8] zs.length (fun gg _ s8 wr => ∃ k : Nat, k ≤ zs.length ∧ zs.length - k ≤ gg ∧ s8 = .int .i64 k ∧ Aside (Below w.heap.size w wr) ∧ Aside (∀ j y, j < k → zs[j]? = some y → p y = false))
  case atStart => exact ⟨0, Nat.zero_le _, by omega, rfl, Below.refl _ w, fun j y hj => absurd hj (Nat.not_lt_zero _)⟩
  case round =>
    obtain ⟨k, hk, hg, rfl, BW, N⟩ := hrel
    by_cases hlt : k < zs.length
    · have hx : zs[k]? = some zs[k] := List.getElem?_eq_getElem hlt
      obtain ⟨b, o, rfl, hb, c0, c1, c2, c3, c4⟩ := rdsRow (hr.below BW.out (Nat.le_refl _)) hx
      have hcall := hp wr zs[k] (hD _ (List.getElem_mem _)) BW.out
      clear hr hp hD
      generalize zs[k] = x at hx c0 c1 c2 c3 c4 hcall
      have HX := Lib.hid hx
      clear hx
      cases hq : p x with
      | true =>
        rw [hq] at hcall
        have HQ := Lib.hid hq
        clear hq
        have hcall' := hide hcall
        clear hcall
        go_wp2_with (go_at_fn g; refine (unhide hcall').mono ?_; rintro e w' ⟨rfl, hb'⟩)
        go_ret
        refine ⟨?_, BW.out.trans (hb'.mono BW.out.size)⟩
        rw [findFrom_hit p zs 0 k x HX.out HQ.out N.out]
        simp
      | false =>
        rw [hq] at hcall
        have HQ := Lib.hid hq
        clear hq
        have hcall' := hide hcall
        clear hcall
        go_wp2_with (go_at_fn g; refine (unhide hcall').mono ?_; rintro e w' ⟨rfl, hb'⟩)
        go_roundg (zs.length - (k + 1))
        case measure => omega
        case rel =>
          refine ⟨k + 1, by omega, by omega, by go_num, BW.out.trans (hb'.mono BW.out.size), (show Aside _ from fun j y hj hy => ?_)⟩
          by_cases e : j = k
          · subst e
            have := HX.out
            rw [hy] at this
            cases this
            exact HQ.out
          · exact N.out j y (by omega) hy
    · go_wp2
      go_ret
      refine ⟨?_, BW.out⟩
      rw [findFrom_miss p zs 0 (fun j y hy => N.out j y (by have := (List.getElem?_eq_some_iff.1 hy).1; omega) hy)]
      rfl

theorem containsRow (A : Option Addr) (c : Nat) (zs : List RowT) (D : RowT → Prop) (p : RowT → Bool) (g : Nat) (lb : Array Value) (eg : ∀ args w, (callFunc g args).run Try.prog w = .ok (.enter g args) w) (w : World)
    (hr : Rds eRow w w.heap.size A zs) (hl : zs.length ≤ 9223372036854775807) (hD : ∀ x ∈ zs, D x) (hp : Asks Try.prog g lb eRow Vagg D p w) :
    Calls Try.prog 94 #[.slice A zs.length c, .func (.func g) #[] lb] w fun e w' => e = .returned (.bool (zs.any p)) ∧ Below w.heap.size w w' := by
  rw [← findFrom_nonneg p zs 0]
  go_enter Try.func94, Try.ntmps94
  go_wp2_with (go_at_call 99; refine (indexRow A c zs D p g lb eg _ hr hl hD hp).mono ?_; rintro e w' ⟨rfl, hb'⟩)
  go_ret
  exact ⟨rfl, hb'⟩

theorem asksAllRow (D : RowT → Prop) (p : RowT → Bool) (g : Nat) (lb : Array Value) (eg : ∀ args w, (callFunc g args).run Try.prog w = .ok (.enter g args) w) (w : World) (B : Nat)
    (hc : w.cell? ⟨B, 0, none⟩ = some (.func (.func g) #[] lb)) (hB : B < w.heap.size) (hp : Asks Try.prog g lb eRow Vagg D p w) :
    Asks Try.prog 95 #[.pointer (some ⟨B, 0, none⟩)] eRow Vagg D (fun x => !p x) w := by
  intro W x hd hb
  have hc' := (hb.cell (p := ⟨B, 0, none⟩) hB).trans hc
  have hB' : B < W.heap.size := Nat.lt_of_lt_of_le hB hb.size
  have hcall := hide (fun (W' : World) (h : Below W.heap.size W W') => hp W' x hd (hb.trans (h.mono hb.size)))
  clear hp hc
  obtain ⟨T, P, L, V, S⟩ := x
  change Calls Try.prog 95 #[.agg #[.int .i64 T, .int .i64 P, .int .i64 L, .int .i64 V, .int .i64 S], .pointer (some ⟨B, 0, none⟩)] W _
  go_enter Try.func95, Try.ntmps95
  go_wp2_with (go_at_fn g; refine (unhide hcall _ ((Below.refl _ _).alloc (Nat.le_refl _) _)).mono ?_; rintro e w' ⟨rfl, hb'⟩)
  go_ret
  exact ⟨rfl, ((Below.refl _ _).alloc (Nat.le_refl _) _).trans (hb'.mono (by simp))⟩

theorem allRow (A : Option Addr) (c : Nat) (zs : List RowT) (D : RowT → Prop) (p : RowT → Bool) (g : Nat) (lb : Array Value) (eg : ∀ args w, (callFunc g args).run Try.prog w = .ok (.enter g args) w) (w : World)
    (hr : Rds eRow w w.heap.size A zs) (hl : zs.length ≤ 9223372036854775807) (hD : ∀ x ∈ zs, D x) (hp : Asks Try.prog g lb eRow Vagg D p w) :
    Calls Try.prog 80 #[.slice A zs.length c, .func (.func g) #[] lb] w fun e w' => e = .returned (.bool (zs.all p)) ∧ Below w.heap.size w w' := by
  have e1 : zs.all p = !zs.any (fun x => !p x) := by simp [List.all_eq_not_any_not]
  rw [e1]
  clear e1
  have eL : ∀ args w, (callFunc 95 args).run Try.prog w = .ok (.enter 95 args) w := enters_of Try.func95 (by kernel_rfl) rfl
  have hw : Below w.heap.size w (w.alloc (.cells #[.func (.func g) #[] lb] 129)) := (Below.refl _ _).alloc (Nat.le_refl _) _
  have hr' := (hr.below hw (Nat.le_refl _)).more hw.size
  have hp' := asksAllRow D p g lb eg _ w.heap.size (by simp) (by simp) (hp.later hw)
  have H := hide (containsRow A c zs D (fun x => !p x) 95 _ eL _ hr' hl hD hp')
  clear hr' hp' hr hp hD eL
  go_enter Try.func80, Try.ntmps80
  go_wp2_with (go_at_call 94; refine (unhide H).mono ?_; rintro e w' ⟨rfl, hb'⟩)
  go_ret
  exact ⟨rfl, hw.trans (hb'.mono hw.size)⟩

set_option maxHeartbeats 400000 in
theorem indexStr (A : Option Addr) (c : Nat) (zs : List StrT) (D : StrT → Prop) (p : StrT → Bool) (g : Nat) (lb : Array Value) (eg : ∀ args w, (callFunc g args).run Try.prog w = .ok (.enter g args) w) (w : World)
    (hr : Rds eStr w w.heap.size A zs) (hl : zs.length ≤ 9223372036854775807) (hD : ∀ x ∈ zs, D x) (hp : Asks Try.prog g lb eStr Vagg D p w) :
    Calls Try.prog 96 #[.slice A zs.length c, .func (.func g) #[] lb] w fun e w' => e = .returned (.int .i64 (findFrom p zs 0)) ∧ Below w.heap.size w w' := by
  go_enter Try.func96, Try.ntmps96
  go_wp2
  go_loopg [5, 8] zs.length (fun gg _ s8 wr => ∃ k : Nat, k ≤ zs.length ∧ zs.length - k ≤ gg ∧ s8 = .int .i64 k ∧ Aside (Below w.heap.size w wr) ∧ Aside (∀ j y, j < k → zs[j]? = some y → p y = false))
  case atStart => exact ⟨0, Nat.zero_le _, by omega, rfl, Below.refl _ w, fun j y hj => absurd hj (Nat.not_lt_zero _)⟩
  case round =>
    obtain ⟨k, hk, hg, rfl, BW, N⟩ := hrel
    by_cases hlt : k < zs.length
    · have hx : zs[k]? = some zs[k] := List.getElem?_eq_getElem hlt
      obtain ⟨b, o, rfl, hb, c0, c1, c2, c3⟩ := rdsStr (hr.below BW.out (Nat.le_refl _)) hx
      have hcall := hp wr zs[k] (hD _ (List.getElem_mem _)) BW.out
      clear hr hp hD
      generalize zs[k] = x at hx c0 c1 c2 c3 hcall
      have HX := Lib.hid hx
      clear hx
      cases hq : p x with
      | true =>
        rw [hq] at hcall
        have HQ := Lib.hid hq
        clear hq
        have hcall' := hide hcall
        clear hcall
        go_wp2_with (go_at_fn g; refine (unhide hcall').mono ?_; rintro e w' ⟨rfl, hb'⟩)
        go_ret
        refine ⟨?_, BW.out.trans (hb'.mono BW.out.size)⟩
        rw [findFrom_hit p zs 0 k x HX.out HQ.out N.out]
        simp
      | false =>
        rw [hq] at hcall
        have HQ := Lib.hid hq
        clear hq
        have hcall' := hide hcall
        clear hcall
        go_wp2_with (go_at_fn g; refine (unhide hcall').mono ?_; rintro e w' ⟨rfl, hb'⟩)
        go_roundg (zs.length - (k + 1))
        case measure => omega
        case rel =>
          refine ⟨k + 1, by omega, by omega, by go_num, BW.out.trans (hb'.mono BW.out.size), (show Aside _ from fun j y hj hy => ?_)⟩
          by_cases e : j = k
          · subst e
            have := HX.out
            rw [hy] at this
            cases this
            exact HQ.out
          · exact N.out j y (by omega) hy
    · go_wp2
      go_ret
      refine ⟨?_, BW.out⟩
      rw [findFrom_miss p zs 0 (fun j y hy => N.out j y (by have := (List.getElem?_eq_some_iff.1 hy).1; omega) hy)]
      rfl

theorem containsStr (A : Option Addr) (c : Nat) (zs : List StrT) (D : StrT → Prop) (p : StrT → Bool) (g : Nat) (lb : Array Value) (eg : ∀ args w, (callFunc g args).run Try.prog w = .ok (.enter g args) w) (w : World)
    (hr : Rds eStr w w.heap.size A zs) (hl : zs.length ≤ 9223372036854775807) (hD : ∀ x ∈ zs, D x) (hp : Asks Try.prog g lb eStr Vagg D p w) :
    Calls Try.prog 82 #[.slice A zs.length c, .func (.func g) #[] lb] w fun e w' => e = .returned (.bool (zs.any p)) ∧ Below w.heap.size w w' := by
  rw [← findFrom_nonneg p zs 0]
  go_enter Try.func82, Try.ntmps82
  go_wp2_with (go_at_call 96; refine (indexStr A c zs D p g lb eg _ hr hl hD hp).mono ?_; rintro e w' ⟨rfl, hb'⟩)
  go_ret
  exact ⟨rfl, hb'⟩

theorem asksAllStr (D : StrT → Prop) (p : StrT → Bool) (g : Nat) (lb : Array Value) (eg : ∀ args w, (callFunc g args).run Try.prog w = .ok (.enter g args) w) (w : World) (B : Nat)
    (hc : w.cell? ⟨B, 0, none⟩ = some (.func (.func g) #[] lb)) (hB : B < w.heap.size) (hp : Asks Try.prog g lb eStr Vagg D p w) :
    Asks Try.prog 83 #[.pointer (some ⟨B, 0, none⟩)] eStr Vagg D (fun x => !p x) w := by
  intro W x hd hb
  have hc' := (hb.cell (p := ⟨B, 0, none⟩) hB).trans hc
  have hB' : B < W.heap.size := Nat.lt_of_lt_of_le hB hb.size
  have hcall := hide (fun (W' : World) (h : Below W.heap.size W W') => hp W' x hd (hb.trans (h.mono hb.size)))
  clear hp hc
  obtain ⟨M, H, S, G⟩ := x
  change Calls Try.prog 83 #[.agg #[.int .i64 M, .int .i64 H, .int .i64 S, .int .i64 G], .pointer (some ⟨B, 0, none⟩)] W _
  go_enter Try.func83, Try.ntmps83
  go_wp2_with (go_at_fn g; refine (unhide hcall _ ((Below.refl _ _).alloc (Nat.le_refl _) _)).mono ?_; rintro e w' ⟨rfl, hb'⟩)
  go_ret
  exact ⟨rfl, ((Below.refl _ _).alloc (Nat.le_refl _) _).trans (hb'.mono (by simp))⟩

theorem allStr (A : Option Addr) (c : Nat) (zs : List StrT) (D : StrT → Prop) (p : StrT → Bool) (g : Nat) (lb : Array Value) (eg : ∀ args w, (callFunc g args).run Try.prog w = .ok (.enter g args) w) (w : World)
    (hr : Rds eStr w w.heap.size A zs) (hl : zs.length ≤ 9223372036854775807) (hD : ∀ x ∈ zs, D x) (hp : Asks Try.prog g lb eStr Vagg D p w) :
    Calls Try.prog 58 #[.slice A zs.length c, .func (.func g) #[] lb] w fun e w' => e = .returned (.bool (zs.all p)) ∧ Below w.heap.size w w' := by
  have e1 : zs.all p = !zs.any (fun x => !p x) := by simp [List.all_eq_not_any_not]
  rw [e1]
  clear e1
  have eL : ∀ args w, (callFunc 83 args).run Try.prog w = .ok (.enter 83 args) w := enters_of Try.func83 (by kernel_rfl) rfl
  have hw : Below w.heap.size w (w.alloc (.cells #[.func (.func g) #[] lb] 120)) := (Below.refl _ _).alloc (Nat.le_refl _) _
  have hr' := (hr.below hw (Nat.le_refl _)).more hw.size
  have hp' := asksAllStr D p g lb eg _ w.heap.size (by simp) (by simp) (hp.later hw)
  have H := hide (containsStr A c zs D (fun x => !p x) 83 _ eL _ hr' hl hD hp')
  clear hr' hp' hr hp hD eL
  go_enter Try.func58, Try.ntmps58
  go_wp2_with (go_at_call 82; refine (unhide H).mono ?_; rintro e w' ⟨rfl, hb'⟩)
  go_ret
  exact ⟨rfl, hw.trans (hb'.mono hw.size)⟩

set_option maxHeartbeats 400000 in
theorem indexInt (A : Option Addr) (c : Nat) (zs : List Int) (D : Int → Prop) (p : Int → Bool) (g : Nat) (lb : Array Value) (eg : ∀ args w, (callFunc g args).run Try.prog w = .ok (.enter g args) w) (w : World)
    (hr : Rds eInt w w.heap.size A zs) (hl : zs.length ≤ 9223372036854775807) (hD : ∀ x ∈ zs, D x) (hp : Asks Try.prog g lb eInt Vone D p w) :
    Calls Try.prog 86 #[.slice A zs.length c, .func (.func g) #[] lb] w fun e w' => e = .returned (.int .i64 (findFrom p zs 0)) ∧ Below w.heap.size w w' := by
  go_enter Try.func86, Try.ntmps86
  go_wp2
  go_loopg [5, 8] zs.length (fun gg _ s8 wr => ∃ k : Nat, k ≤ zs.length ∧ zs.length - k ≤ gg ∧ s8 = .int .i64 k ∧ Aside (Below w.heap.size w wr) ∧ Aside (∀ j y, j < k → zs[j]? = some y → p y = false))
  case atStart => exact ⟨0, Nat.zero_le _, by omega, rfl, Below.refl _ w, fun j y hj => absurd hj (Nat.not_lt_zero _)⟩
  case round =>
    obtain ⟨k, hk, hg, rfl, BW, N⟩ := hrel
    by_cases hlt : k < zs.length
    · have hx : zs[k]? = some zs[k] := List.getElem?_eq_getElem hlt
      obtain ⟨b, o, rfl, hb, c0⟩ := rdsInt (hr.below BW.out (Nat.le_refl _)) hx
      have hcall := hp wr zs[k] (hD _ (List.getElem_mem _)) BW.out
      clear hr hp hD
      generalize zs[k] = x at hx c0 hcall
      have HX := Lib.hid hx
      clear hx
      cases hq : p x with
      | true =>
        rw [hq] at hcall
        have HQ := Lib.hid hq
        clear hq
        have hcall' := hide hcall
        clear hcall
        go_wp2_with (go_at_fn g; refine (unhide hcall').mono ?_; rintro e w' ⟨rfl, hb'⟩)
        go_ret
        refine ⟨?_, BW.out.trans (hb'.mono BW.out.size)⟩
        rw [findFrom_hit p zs 0 k x HX.out HQ.out N.out]
        simp
      | false =>
        rw [hq] at hcall
        have HQ := Lib.hid hq
        clear hq
        have hcall' := hide hcall
        clear hcall
        go_wp2_with (go_at_fn g; refine (unhide hcall').mono ?_; rintro e w' ⟨rfl, hb'⟩)
        go_roundg (zs.length - (k + 1))
        case measure => omega
        case rel =>
          refine ⟨k + 1, by omega, by omega, by go_num, BW.out.trans (hb'.mono BW.out.size), (show Aside _ from fun j y hj hy => ?_)⟩
          by_cases e : j = k
          · subst e
            have := HX.out
            rw [hy] at this
            cases this
            exact HQ.out
          · exact N.out j y (by omega) hy
    · go_wp2
      go_ret
      refine ⟨?_, BW.out⟩
      rw [findFrom_miss p zs 0 (fun j y hy => N.out j y (by have := (List.getElem?_eq_some_iff.1 hy).1; omega) hy)]
      rfl

theorem containsInt (A : Option Addr) (c : Nat) (zs : List Int) (D : Int → Prop) (p : Int → Bool) (g : Nat) (lb : Array Value) (eg : ∀ args w, (callFunc g args).run Try.prog w = .ok (.enter g args) w) (w : World)
    (hr : Rds eInt w w.heap.size A zs) (hl : zs.length ≤ 9223372036854775807) (hD : ∀ x ∈ zs, D x) (hp : Asks Try.prog g lb eInt Vone D p w) :
    Calls Try.prog 67 #[.slice A zs.length c, .func (.func g) #[] lb] w fun e w' => e = .returned (.bool (zs.any p)) ∧ Below w.heap.size w w' := by
  rw [← findFrom_nonneg p zs 0]
  go_enter Try.func67, Try.ntmps67
  go_wp2_with (go_at_call 86; refine (indexInt A c zs D p g lb eg _ hr hl hD hp).mono ?_; rintro e w' ⟨rfl, hb'⟩)
  go_ret
  exact ⟨rfl, hb'⟩

theorem asksAllInt (D : Int → Prop) (p : Int → Bool) (g : Nat) (lb : Array Value) (eg : ∀ args w, (callFunc g args).run Try.prog w = .ok (.enter g args) w) (w : World) (B : Nat)
    (hc : w.cell? ⟨B, 0, none⟩ = some (.func (.func g) #[] lb)) (hB : B < w.heap.size) (hp : Asks Try.prog g lb eInt Vone D p w) :
    Asks Try.prog 85 #[.pointer (some ⟨B, 0, none⟩)] eInt Vone D (fun x => !p x) w := by
  intro W x hd hb
  have hc' := (hb.cell (p := ⟨B, 0, none⟩) hB).trans hc
  have hB' : B < W.heap.size := Nat.lt_of_lt_of_le hB hb.size
  have hcall := hide (fun (W' : World) (h : Below W.heap.size W W') => hp W' x hd (hb.trans (h.mono hb.size)))
  clear hp hc
  change Calls Try.prog 85 #[.int .i64 x, .pointer (some ⟨B, 0, none⟩)] W _
  go_enter Try.func85, Try.ntmps85
  go_wp2_with (go_at_fn g; refine (unhide hcall _ (Below.refl _ _)).mono ?_; rintro e w' ⟨rfl, hb'⟩)
  go_ret
  exact ⟨rfl, hb'⟩

theorem allInt (A : Option Addr) (c : Nat) (zs : List Int) (D : Int → Prop) (p : Int → Bool) (g : Nat) (lb : Array Value) (eg : ∀ args w, (callFunc g args).run Try.prog w = .ok (.enter g args) w) (w : World)
    (hr : Rds eInt w w.heap.size A zs) (hl : zs.length ≤ 9223372036854775807) (hD : ∀ x ∈ zs, D x) (hp : Asks Try.prog g lb eInt Vone D p w) :
    Calls Try.prog 66 #[.slice A zs.length c, .func (.func g) #[] lb] w fun e w' => e = .returned (.bool (zs.all p)) ∧ Below w.heap.size w w' := by
  have e1 : zs.all p = !zs.any (fun x => !p x) := by simp [List.all_eq_not_any_not]
  rw [e1]
  clear e1
  have eL : ∀ args w, (callFunc 85 args).run Try.prog w = .ok (.enter 85 args) w := enters_of Try.func85 (by kernel_rfl) rfl
  have hw : Below w.heap.size w (w.alloc (.cells #[.func (.func g) #[] lb] 121)) := (Below.refl _ _).alloc (Nat.le_refl _) _
  have hr' := (hr.below hw (Nat.le_refl _)).more hw.size
  have hp' := asksAllInt D p g lb eg _ w.heap.size (by simp) (by simp) (hp.later hw)
  have H := hide (containsInt A c zs D (fun x => !p x) 85 _ eL _ hr' hl hD hp')
  clear hr' hp' hr hp hD eL
  go_enter Try.func66, Try.ntmps66
  go_wp2_with (go_at_call 67; refine (unhide H).mono ?_; rintro e w' ⟨rfl, hb'⟩)
  go_ret
  exact ⟨rfl, hw.trans (hb'.mono hw.size)⟩
end Go.Proofs.Ytenpbiineblcjaa
