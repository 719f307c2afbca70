/-
  Contract of the comparison that ranks indexes by a key: ranked's function literal.
-/
import Derived.Test.YtenpbiineblcjaaSortS
namespace Go.Proofs.Ytenpbiineblcjaa
open Go.RowKit Go.Shelf

/-- A key (function g, with what it has captured): at elements of D it answers key x in every world in which all but block r lies as in w. -/
def KeyAt (P : Program) (g : Nat) (lb : Array Value) (D : Int → Prop) (key : Int → Int) (r : Nat) (w : World) : Prop :=
  ∀ (W : World) (x : Int), D x → w.grownBy W (some r) → Calls P g (#[.int .i64 x] ++ lb) W fun e w' => e = .returned (.int .i64 (key x)) ∧ Below W.heap.size W w'

theorem grown_cell {w W : World} {r : Nat} (h : w.grownBy W (some r)) {b o : Nat} (hb : b < w.heap.size) (hne : b ≠ r) : W.cell? ⟨b, o, none⟩ = w.cell? ⟨b, o, none⟩ :=
  World.cell?_of_block (h.block b hb (fun e => hne (by injection e)))

set_option maxHeartbeats 800000 in
theorem rankCmp (A : Option Addr) (c : Nat) (ls : List Int) (B B0 B1 r : Nat) (g : Nat) (lb : Array Value) (eg : ∀ args w, (callFunc g args).run Try.prog w = .ok (.enter g args) w) (D : Int → Prop) (key : Int → Int) (w : World)
    (_hl : ls.length ≤ 1000) (hr : Rds eInt w B A ls) (hB : B ≤ r) (hBw : B ≤ w.heap.size)
    (h0 : w.cell? ⟨B0, 0, none⟩ = some (.func (.func g) #[] lb)) (b0 : B0 < w.heap.size) (n0 : B0 ≠ r)
    (h1 : w.cell? ⟨B1, 0, none⟩ = some (.slice A ls.length c)) (b1 : B1 < w.heap.size) (n1 : B1 ≠ r)
    (hD : ∀ x ∈ ls, D x) (hkb : ∀ x ∈ ls, 0 ≤ key x ∧ key x ≤ 1000000000000) (hk : KeyAt Try.prog g lb D key r w) :
    Cmps Try.prog 98 #[.pointer (some ⟨B0, 0, none⟩), .pointer (some ⟨B1, 0, none⟩)] (fun x => 0 ≤ x ∧ x < ls.length) (fun i k => key (ls.getD k.toNat 0) - key (ls.getD i.toNat 0)) r w := by
  rintro W i k ⟨i0, i1⟩ ⟨k0, k1⟩ hG
  obtain ⟨i, rfl⟩ := Int.eq_ofNat_of_zero_le i0
  obtain ⟨k, rfl⟩ := Int.eq_ofNat_of_zero_le k0
  have hi : ls[i]? = some (ls[i]'(by omega)) := List.getElem?_eq_getElem _
  have hk' : ls[k]? = some (ls[k]'(by omega)) := List.getElem?_eq_getElem _
  obtain ⟨b, o, rfl, hb, ci⟩ := rdsInt hr hi
  obtain ⟨_, _, e, _, ck⟩ := rdsInt hr hk'
  cases e
  have gi : ls.getD (i : Int).toNat 0 = ls[i]'(by omega) := by rw [Int.toNat_natCast, List.getD_eq_getElem?_getD, hi]; rfl
  have gk : ls.getD (k : Int).toNat 0 = ls[k]'(by omega) := by rw [Int.toNat_natCast, List.getD_eq_getElem?_getD, hk']; rfl
  simp only [gi, gk]
  have dx := hD _ (List.mem_of_getElem? hi)
  have dy := hD _ (List.mem_of_getElem? hk')
  obtain ⟨x0, x1⟩ := hkb _ (List.mem_of_getElem? hi)
  obtain ⟨y0, y1⟩ := hkb _ (List.mem_of_getElem? hk')
  generalize ls[i]'(by omega) = x at *
  generalize ls[k]'(by omega) = y at *
  have c0 : W.cell? ⟨B0, 0, none⟩ = _ := (grown_cell hG b0 n0).trans h0
  have c1 : W.cell? ⟨B1, 0, none⟩ = _ := (grown_cell hG b1 n1).trans h1
  have c2 : W.cell? ⟨b, o + i, none⟩ = _ := (grown_cell hG (by omega) (by omega)).trans ci
  have c3 : W.cell? ⟨b, o + k, none⟩ = _ := (grown_cell hG (by omega) (by omega)).trans ck
  have HK := hide (fun (W' : World) (z : Int) (hz : D z) (hb : Below W.heap.size W W') => hk W' z hz (grown_below hG hb))
  have z0 : B0 < W.heap.size := Nat.lt_of_lt_of_le b0 hG.size
  have z1 : B1 < W.heap.size := Nat.lt_of_lt_of_le b1 hG.size
  have z2 : b < W.heap.size := by have := hG.size; omega
  have hw : IntKind.i64.wrap (key y - key x) = key y - key x := by rw [IntKind.wrap_i64]; omega
  have k2 : (k : Int) < ls.length := by omega
  have i2 : (i : Int) < ls.length := by omega
  have k3 : k < ls.length := by omega
  have i3 : i < ls.length := by omega
  clear gi gk h0 h1 ci ck hr hk hkb hD hi hk' hG hB hBw n0 n1 b0 b1 hb
  generalize hkx : key x = kx at *
  generalize hky : key y = ky at *
  have HX := hide hkx
  have HY := hide hky
  clear hkx hky
  go_enter Try.func98, Try.ntmps98
  go_wp2_with fail
  go_region_held3 (fun V => V.cell? ⟨B0, 0, none⟩ = some (.func (.func g) #[] lb) ∧ V.cell? ⟨B1, 0, none⟩ = some (.slice (some ⟨b, o, none⟩) ls.length c) ∧ V.cell? ⟨b, o + i, none⟩ = some (.int .i64 x) ∧ V.cell? ⟨b, o + k, none⟩ = some (.int .i64 y)) (go_simp)
    (first
      | (go_at_fn g; refine (unhide HK W.drew y dy (Below.refl _ _).drew).mono ?_; rintro e w4 ⟨rfl, hb4⟩; have B4 : Below W.heap.size W w4 := (Below.refl W.heap.size W).drew.trans hb4; obtain ⟨hc4, hf4⟩ := bcell B4; rw [unhide HY])
      | (go_at_fn g; refine (unhide HK _ x dx B4).mono ?_; rintro e w5 ⟨rfl, hb5⟩; have B5 : Below W.heap.size W w5 := B4.trans (hb5.mono B4.size); obtain ⟨hc5, hf5⟩ := bcell B5; rw [unhide HX]))
  go_wp2_with fail
  go_ret
  exact ⟨rfl, B5⟩
end Go.Proofs.Ytenpbiineblcjaa
