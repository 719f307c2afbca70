/-
  Contracts of package steam: gcd, Saturation. For every table and temperature.
-/
import Derived.Test.YtenpbiineblcjaaSteamC
namespace Go.Proofs.Ytenpbiineblcjaa
open Go.RowKit Go.Shelf

set_option maxHeartbeats 400000 in
theorem gcd_any (a b : Nat) (ha : a ≤ 9223372036854775807) (hb : b ≤ 9223372036854775807) (w : World) :
    Calls Try.prog 76 #[.int .i64 a, .int .i64 b] w fun e w' => e = .returned (.int .i64 (Nat.gcd a b)) ∧ Below w.heap.size w w' := by
  go_enter Try.func76, Try.ntmps76
  go_wp2
  go_loopg [0, 1] b (fun gg s0 s1 wr => ∃ x y : Nat, x ≤ 9223372036854775807 ∧ y ≤ 9223372036854775807 ∧ y ≤ gg ∧ s0 = .int .i64 x ∧ s1 = .int .i64 y ∧ Aside (Below w.heap.size w wr) ∧ Aside (Nat.gcd x y = Nat.gcd a b))
  case atStart => exact ⟨a, b, ha, hb, Nat.le_refl _, rfl, rfl, Below.refl _ w, rfl⟩
  case round =>
    obtain ⟨x, y, hx, hy, hg, rfl, rfl, BW, E⟩ := hrel
    by_cases h0 : 0 < y
    · have h1 : (0 : Int) < (y : Int) := by omega
      have h2 : ¬ (y : Int) = 0 := by omega
      go_wp2_with fail
      go_quiet (fail)
      go_wp2_with fail
      go_roundg (x % y)
      case measure => have := Nat.mod_lt x h0; omega
      case rel =>
        refine ⟨y, x % y, hy, by have := Nat.mod_lt x h0; omega, Nat.le_refl _, rfl, by simp, ?_, ?_⟩
        · exact ⟨BW.out.os, BW.out.tape, BW.out.output, BW.out.size, BW.out.block⟩
        · show Nat.gcd y (x % y) = Nat.gcd a b
          rw [← E.out, Nat.gcd_comm x y, Nat.gcd_rec y x, Nat.gcd_comm]
    · have : y = 0 := by omega
      subst this
      go_wp2_with fail
      go_ret
      have := E.out
      rw [Nat.gcd_zero_right] at this
      exact ⟨by rw [← this]; rfl, BW.out⟩

theorem gcd_int (a b : Int) (h0 : 0 ≤ a) (h1 : a ≤ 9223372036854775807) (h2 : 0 ≤ b) (h3 : b ≤ 9223372036854775807) (w : World) :
    Calls Try.prog 76 #[.int .i64 a, .int .i64 b] w fun e w' => e = .returned (.int .i64 (Nat.gcd a.toNat b.toNat)) ∧ Below w.heap.size w w' := by
  obtain ⟨x, rfl⟩ := Int.eq_ofNat_of_zero_le h0
  obtain ⟨y, rfl⟩ := Int.eq_ofNat_of_zero_le h2
  rw [Int.toNat_natCast, Int.toNat_natCast]
  exact gcd_any x y (by omega) (by omega) w

@[go_sem] theorem setCell_drewN (w : World) (n : Nat) (a : Addr) (v : Value) : (w.drewN n).setCell a v = (w.setCell a v).drewN n := rfl
@[go_sem] theorem alloc_drewN (w : World) (n : Nat) (o : Obj) : (w.drewN n).alloc o = (w.alloc o).drewN n := rfl

end Go.Proofs.Ytenpbiineblcjaa
