/-
  slices.IndexFunc at a table. No conditions.
-/
import Derived.Test.YtenpbiineblcjaaSteamAll
namespace Go.Proofs.Ytenpbiineblcjaa
open Go.RowKit Go.Shelf

set_option maxHeartbeats 400000 in
theorem indexTab (A : Option Addr) (c : Nat) (zs : List RowT) (D : RowT → Prop) (p : RowT → Bool) (g : Nat) (lb : Array Value) (eg : ∀ args w, (callFunc g args).run Try.prog w = .ok (.enter g args) w) (w : World)
    (hr : Rds eRow w w.heap.size A zs) (hl : zs.length ≤ 9223372036854775807) (hD : ∀ x ∈ zs, D x) (hp : Asks Try.prog g lb eRow Vagg D p w) :
    Calls Try.prog 74 #[.slice A zs.length c, .func (.func g) #[] lb] w fun e w' => e = .returned (.int .i64 (findFrom p zs 0)) ∧ Below w.heap.size w w' := by
  go_enter Try.func74, Try.ntmps74
  go_wp2
  go_loopg [5, 8] zs.length (fun gg _ s8 wr => ∃ k : Nat, k ≤ zs.length ∧ zs.length - k ≤ gg ∧ s8 = .int .i64 k ∧ Aside (Below w.heap.size w wr) ∧ Aside (∀ j y, j < k → zs[j]? = some y → p y = false))
  case atStart => exact ⟨0, Nat.zero_le _, by omega, rfl, Below.refl _ w, fun j y hj => absurd hj (Nat.not_lt_zero _)⟩
  case round =>
    obtain ⟨k, hk, hg, rfl, BW, N⟩ := hrel
    by_cases hlt : k < zs.length
    · have hx : zs[k]? = some zs[k] := List.getElem?_eq_getElem hlt
      obtain ⟨b, o, rfl, hb, c0, c1, c2, c3, c4⟩ := rdsRow (hr.below BW.out (Nat.le_refl _)) hx
      have hcall := hp wr zs[k] (hD _ (List.getElem_mem _)) BW.out
      clear hr hp hD
      generalize zs[k] = x at hx c0 c1 c2 c3 c4 hcall
      have HX := Lib.hid hx
      clear hx
      cases hq : p x with
      | true =>
        rw [hq] at hcall
        have HQ := Lib.hid hq
        clear hq
        have hcall' := hide hcall
        clear hcall
        go_wp2_with (go_at_fn g; refine (unhide hcall').mono ?_; rintro e w' ⟨rfl, hb'⟩)
        go_ret
        refine ⟨?_, BW.out.trans (hb'.mono BW.out.size)⟩
        rw [findFrom_hit p zs 0 k x HX.out HQ.out N.out]
        simp
      | false =>
        rw [hq] at hcall
        have HQ := Lib.hid hq
        clear hq
        have hcall' := hide hcall
        clear hcall
        go_wp2_with (go_at_fn g; refine (unhide hcall').mono ?_; rintro e w' ⟨rfl, hb'⟩)
        go_roundg (zs.length - (k + 1))
        case measure => omega
        case rel =>
          refine ⟨k + 1, by omega, by omega, by go_num, BW.out.trans (hb'.mono BW.out.size), (show Aside _ from fun j y hj hy => ?_)⟩
          by_cases e : j = k
          · subst e
            have := HX.out
            rw [hy] at this
            cases this
            exact HQ.out
          · exact N.out j y (by omega) hy
    · go_wp2
      go_ret
      refine ⟨?_, BW.out⟩
      rw [findFrom_miss p zs 0 (fun j y hy => N.out j y (by have := (List.getElem?_eq_some_iff.1 hy).1; omega) hy)]
      rfl

end Go.Proofs.Ytenpbiineblcjaa
