/-
  Contract of sum: streams added up. At most 1000 streams, numbers up to 10^11.
-/
import Derived.Test.YtenpbiineblcjaaSum
namespace Go.Proofs.Ytenpbiineblcjaa
open Go.RowKit Go.Shelf

set_option maxHeartbeats 800000 in
theorem sum_any (A : Option Addr) (c : Nat) (l : List StrT) (hl : l.length ≤ 1000) (hin : ∀ x ∈ l, StrIn 100000000000 x) (w : World) (hr : Rds eStr w w.heap.size A l) :
    Calls Try.prog 71 #[.slice A l.length c] w fun e w' => e = .returned (vStr (sumStr l)) ∧ Below w.heap.size w w' := by
  have eA : ∀ args w, (callFunc 89 args).run Try.prog w = .ok (.enter 89 args) w := enters_of Try.func89 (by kernel_rfl) rfl
  have HR := hide (And.intro hr hin)
  clear hr hin
  go_enter Try.func71, Try.ntmps71
  go_wp2_with fail
  go_loopg [5, 9] l.length (fun gg _ s9 wr => ∃ (k : Nat) (u : World), k ≤ l.length ∧ l.length - k ≤ gg ∧ s9 = .int .i64 k ∧ wr = u.setRow w.heap.size (cStr (sumStr (l.take k))) ∧ IsRow u w.heap.size ∧ Aside (Below w.heap.size w u))
  case atStart =>
    obtain ⟨u, hu, hi, hb⟩ := graft1 (fun W => Below w.heap.size w W) (RowIs.new w #[.int .i64 0, .int .i64 0, .int .i64 0, .int .i64 0] 42) ((Below.refl _ _).alloc (Nat.le_refl _) _)
    exact ⟨0, u, Nat.zero_le _, by omega, rfl, hu, hi, hb⟩
  case round =>
    obtain ⟨k, u, hk, hg, rfl, rfl, hu, BU⟩ := hrel
    by_cases hlt : k < l.length
    · have hx : l[k]? = some l[k] := List.getElem?_eq_getElem hlt
      obtain ⟨b, o, rfl, hb, c0, c1, c2, c3⟩ := rdsStr ((unhide HR).1.below BU.out (Nat.le_refl _)) hx
      have hxin := (unhide HR).2 _ (List.mem_of_getElem? hx)
      have htk : sumStr (l.take (k + 1)) = addStr (sumStr (l.take k)) l[k] := by rw [List.take_add_one, hx, ← sumStr_snoc]; rfl
      have hsin : StrIn 1000000000000000 (sumStr (l.take k)) := by
        have h1 := sumStr_in (l := l.take k) (c := 100000000000) (fun y hy => (unhide HR).2 y (List.mem_of_mem_take hy))
        have h2 : ((l.take k).length : Int) ≤ 1000 := by rw [List.length_take]; omega
        simp only [StrIn] at *
        omega
      have hadd := hide (fun (v : World) (hv : IsRow v w.heap.size) => add_any w.heap.size v hv (sumStr (l.take k)) l[k] hsin (by simp only [StrIn] at *; omega))
      generalize l[k] = x at *
      generalize hS : sumStr (l.take k) = S at *
      have HT := hide htk
      clear htk hS hx hsin hxin
      have hz := hu.lt
      have hbz : b ≠ w.heap.size := by omega
      have hbu : b < u.heap.size := by omega
      have hbu1 : b < u.heap.size + 1 := by omega
      have hz1 : w.heap.size < u.heap.size + 1 := by omega
      obtain ⟨M, H, S', G⟩ := x
      dsimp only at c0 c1 c2 c3
      go_wp2_with fail
      rw [alloc_setRow hz]
      refine (unhide hadd _ (hu.alloc _)).mono ?_
      rintro e w' ⟨rfl, u', rfl, hu', hB'⟩
      go_wp2_with fail
      go_roundg (l.length - (k + 1))
      case measure => omega
      case rel => exact ⟨k + 1, u', by omega, by omega, by go_num, by rw [unhide HT], hu', (BU.out.alloc BU.out.size _).trans (hB'.mono (by have := BU.out.size; simp; omega))⟩
    · obtain rfl : k = l.length := by omega
      rw [List.take_length]
      generalize hS : sumStr l = S at *
      have HS := hide hS
      clear hS
      obtain ⟨M, H, S', G⟩ := S
      have hz := hu.lt
      simp only [cStr]
      go_wp2_with fail
      refine bodyPost_ret (v := .agg #[.int .i64 M, .int .i64 H, .int .i64 S', .int .i64 G]) (by simp [results, Try.results71, go_sem, hu]) rfl ⟨by rw [unhide HS], belowRow BU.out (Nat.le_refl _) _⟩
end Go.Proofs.Ytenpbiineblcjaa
