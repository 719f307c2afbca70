/-
  The statement on the lines of a table: the extracted law returns true for every input. No conditions.
-/
import Derived.Test.YtenpbiineblcjaaX4
import Derived.Test.YtenpbiineblcjaaPTab
namespace Go.Proofs.Ytenpbiineblcjaa
open Go.RowKit

/-! the greatest common divisor, by its name -/
theorem gcd_nat (N : Nat) (k : Int → Option Int) : ∀ (n x y : Nat), y < n → steam_gcdX_loop1 N k n (x : Int) (y : Int) = k (Nat.gcd x y : Int)
  | 0, _, _, h => absurd h (Nat.not_lt_zero _)
  | n + 1, x, y, h => by
    unfold steam_gcdX_loop1
    by_cases h0 : 0 < y
    · rw [show (decide ((y : Int) > 0)) = true by rw [decide_eq_true_eq]; omega]
      have h1 : ((y : Int) != 0) = true := by simp; omega
      have e : (x : Int).tmod (y : Int) = ((x % y : Nat) : Int) := rfl
      have hm := Nat.mod_lt x h0
      simp only [cond_true, chk, h1, e]
      rw [gcd_nat N k n y (x % y) (by omega), Nat.gcd_comm y (x % y), ← Nat.gcd_rec, Nat.gcd_comm]
    · obtain rfl : y = 0 := by omega
      simp
theorem gcd_eq {N x y : Nat} (h : y < N) : steam_gcdX N (x : Int) (y : Int) = some (Nat.gcd x y : Int) := gcd_nat N _ N x y h

theorem tab_ltP {t : List GRow} (h : tabB t = true) {i : Nat} {a : GRow} (ha : t[i]? = some a) : ∀ (d : Nat) (b : GRow), t[i + d + 1]? = some b → a.P < b.P
  | 0, b, hb => (tab_step h ha hb).2
  | d + 1, b, hb => by
    have hl := (List.getElem?_eq_some_iff.1 hb).1
    have hc : t[i + d + 1]? = some t[i + d + 1] := List.getElem?_eq_getElem (by omega)
    have h1 := tab_ltP h ha d _ hc
    have h2 := (tab_step h hc (by rw [show i + d + 1 + 1 = i + (d + 1) + 1 by omega]; exact hb)).2
    omega
theorem tab_ltP' {t : List GRow} (h : tabB t = true) {i k : Nat} {a b : GRow} (ha : t[i]? = some a) (hb : t[k]? = some b) (hik : i < k) : a.P < b.P :=
  tab_ltP h ha (k - i - 1) b (by rw [show i + (k - i - 1) + 1 = k by omega]; exact hb)
theorem tab_leP {t : List GRow} (h : tabB t = true) {i k : Nat} {a b : GRow} (ha : t[i]? = some a) (hb : t[k]? = some b) (hik : i ≤ k) : a.P ≤ b.P := by
  rcases Nat.lt_or_ge i k with h' | h'
  · have := tab_ltP' h ha hb h'; omega
  · obtain rfl : i = k := by omega
    rw [ha] at hb; cases hb; exact Int.le_refl _
theorem tab_leT {t : List GRow} (h : tabB t = true) {i k : Nat} {a b : GRow} (ha : t[i]? = some a) (hb : t[k]? = some b) (hik : i ≤ k) : a.T ≤ b.T := by
  rcases Nat.lt_or_ge i k with h' | h'
  · have := tab_lt' h ha hb h'; omega
  · obtain rfl : i = k := by omega
    rw [ha] at hb; cases hb; exact Int.le_refl _

/-- The saturation between two rows, ahead of the division. -/
structure Lies (t : List GRow) (p : Int) (j : Nat) (a b : GRow) (x y : Nat) : Prop where
  ha : t[j]? = some a
  hb : t[j + 1]? = some b
  lo : a.T ≤ p
  hi : p ≤ b.T
  past : j = 0 ∨ a.T < p
  hx : (x : Int) = a.P * (b.T - p) + b.P * (p - a.T)
  hy : (y : Int) = b.T - a.T
  pos : 0 < y
  top : y ≤ 400
  most : x ≤ 8000000

theorem sat_val {N : Nat} {t : List GRow} {p : Int} (hN : 1001 ≤ N) (h : tabB t = true) {x y : GRow} (hx : t[0]? = some x) (hy : t[t.length - 1]? = some y) (hp : btw p x.T y.T = true) :
    ∃ (j : Nat) (a b : GRow) (n d : Nat), Lies t p j a b n d ∧ steam_SaturationX N t p = some (⟨((n / Nat.gcd n d : Nat) : Int), ((d / Nat.gcd n d : Nat) : Int)⟩, 0) := by
  have hl := tab_len h
  have e0 : getI t 0 = some x := getI_at (i := 0) hx
  have hp' := hp
  simp only [btw, Bool.and_eq_true, decide_eq_true_eq] at hp'
  obtain ⟨j, a, b, hja, hjb, q3, q4, q5, q6⟩ := place t x y hx hy hl.1 hp'.1 hp'.2
  have hjl := (List.getElem?_eq_some_iff.1 hjb).1
  have hab := tab_step h hja hjb
  have pa := tab_row h hja
  have pb := tab_row h hjb
  obtain ⟨r1, r2, r3, r4, r5⟩ := reckon pa pb q6 q3 hab.1 hab.2
  have hd' : b.T - a.T ≤ 400 := by have := pa.t0; have := pb.t1; omega
  obtain ⟨n, hn⟩ := Int.eq_ofNat_of_zero_le r4
  obtain ⟨d, hd⟩ := Int.eq_ofNat_of_zero_le (show 0 ≤ b.T - a.T by omega)
  refine ⟨j, a, b, n, d, ⟨hja, hjb, q6, q3, q5, hn.symm, hd.symm, by omega, by omega, by omega⟩, ?_⟩
  have hg := gcd_eq (N := N) (x := n) (y := d) (by omega)
  have hgp : 0 < Nat.gcd n d := Nat.gcd_pos_of_pos_right n (by omega)
  have ej : w64 ((j : Int) + 1) = ((j + 1 : Nat) : Int) := by rw [w64_id] <;> omega
  have hix : slices_IndexFunc_steam_Table_steam_RowX_1 N (t.drop (1 : Int).toNat) p = some (j : Int) := by
    have := first_loop N (t.drop 1) p (fun _ => some (-1)) (by simp; omega) (j := j) (b := b) (by rw [List.getElem?_drop, Nat.add_comm]; exact hjb) q3 (fun i z hi hz => q4 i z hi (by rw [List.getElem?_drop, Nat.add_comm] at hz; exact hz)) N 0 (by omega) (Nat.zero_le _)
    unfold slices_IndexFunc_steam_Table_steam_RowX_1 joinK
    exact this
  have ec : (decide ((1 : Int) ≤ (t.length : Int))) = true := by rw [decide_eq_true_eq]; omega
  have hg' : ((Nat.gcd n d : Int) != 0) = true := by simp; omega
  have f1 : (n : Int).tdiv (Nat.gcd n d : Int) = ((n / Nat.gcd n d : Nat) : Int) := rfl
  have f2 : (d : Int).tdiv (Nat.gcd n d : Int) = ((d / Nat.gcd n d : Nat) : Int) := rfl
  have g1 := Nat.div_le_self n (Nat.gcd n d)
  have g2 := Nat.div_le_self d (Nat.gcd n d)
  rw [hn] at r1
  rw [hd] at r3
  rw [hn] at r5
  unfold steam_SaturationX
  rw [valid_eq (by omega) hN, h, e0, getI_last (by omega) hl.1 hy]
  simp only [Option.bind_some, within_eq, hp, Bool.not_true, cond_false, hix, getI_at hja, ej, getI_at hjb, r1, hd, r3, hg, hg', ec, f1, f2]
  rw [w64_id (x := ((n / Nat.gcd n d : Nat) : Int)) (Int.le_trans (by decide) (Int.natCast_nonneg _)) (Int.le_trans (Int.ofNat_le.2 g1) (by omega)), w64_id (x := ((d / Nat.gcd n d : Nat) : Int)) (Int.le_trans (by decide) (Int.natCast_nonneg _)) (Int.le_trans (Int.ofNat_le.2 g2) (by omega))]
  simp [chk]

theorem sat_at {N : Nat} {t : List GRow} (hN : 1001 ≤ N) (h : tabB t = true) {x y r : GRow} (hx : t[0]? = some x) (hy : t[t.length - 1]? = some y) {i : Nat} (hi : t[i]? = some r) : steam_SaturationX N t r.T = some (⟨r.P, 1⟩, 0) := by
  have hl := tab_len h
  have hil := (List.getElem?_eq_some_iff.1 hi).1
  have h1 := tab_leT h hx hi (Nat.zero_le _)
  have h2 := tab_leT h hi hy (by omega)
  obtain ⟨q, e1, e2⟩ := sat_eq hN h hx hy (p := r.T) (by simp [btw]; omega)
  have : ref01_SaturationX N t r.T = some ⟨r.P, 1⟩ := by
    unfold ref01_SaturationX
    exact same_loop N t r.T _ (by omega) hi rfl (fun k z hk hz e => by have := tab_lt' h hz hi hk; omega) N 0 (by omega) (Nat.zero_le _)
  rw [this] at e2
  cases e2
  exact e1

theorem rises {t : List GRow} (h : tabB t = true) {p q : Int} (hpq : p < q) {j k : Nat} {a b c d : GRow} {n m y z : Nat} (h1 : Lies t p j a b n y) (h2 : Lies t q k c d m z) : n * z < m * y := by
  have key : (n : Int) * z < m * y := by
    have ab := tab_step h h1.ha h1.hb
    have cd := tab_step h h2.ha h2.hb
    have hy : (0 : Int) < y := by have := h1.pos; omega
    have hz : (0 : Int) < z := by have := h2.pos; omega
    rcases Nat.lt_trichotomy j k with hjk | hjk | hjk
    · have hbc := tab_leP h h1.hb h2.ha (by omega)
      have hcq : c.T < q := by rcases h2.past with e | e
                               · omega
                               · exact e
      have e1 : (n : Int) ≤ b.P * y := by
        have : 0 ≤ (b.P - a.P) * (b.T - p) := Int.mul_nonneg (by omega) (by have := h1.hi; omega)
        rw [h1.hx, h1.hy]
        simp only [Int.mul_sub, Int.sub_mul] at this ⊢
        omega
      have e2 : c.P * z < (m : Int) := by
        have : 0 < (d.P - c.P) * (q - c.T) := Int.mul_pos (by omega) (by omega)
        rw [h2.hx, h2.hy]
        simp only [Int.mul_sub, Int.sub_mul] at this ⊢
        omega
      calc (n : Int) * z ≤ b.P * y * z := Int.mul_le_mul_of_nonneg_right e1 (by omega)
        _ ≤ c.P * y * z := Int.mul_le_mul_of_nonneg_right (Int.mul_le_mul_of_nonneg_right hbc (by omega)) (by omega)
        _ = c.P * z * y := by rw [Int.mul_assoc, Int.mul_comm (y : Int), ← Int.mul_assoc]
        _ < m * y := Int.mul_lt_mul_of_pos_right e2 hy
    · subst hjk
      have e1 := h1.ha.symm.trans h2.ha
      have e2 := h1.hb.symm.trans h2.hb
      cases e1; cases e2
      have hyz : (y : Int) = z := by rw [h1.hy, h2.hy]
      have : 0 < (b.P - a.P) * (q - p) := Int.mul_pos (by omega) (by omega)
      have hnm : (n : Int) < m := by
        rw [h1.hx, h2.hx]
        simp only [Int.mul_sub, Int.sub_mul] at this ⊢
        omega
      rw [← hyz]
      exact Int.mul_lt_mul_of_pos_right hnm hy
    · have hdA := tab_leT h h2.hb h1.ha (by omega)
      have := h2.hi
      have := h1.lo
      omega
  exact_mod_cast key

theorem quot_lt {n y m z : Nat} (hy : 0 < y) (hz : 0 < z) (h : n * z < m * y) : (n / Nat.gcd n y) * (z / Nat.gcd m z) < (m / Nat.gcd m z) * (y / Nat.gcd n y) := by
  have g1 : 0 < Nat.gcd n y := Nat.gcd_pos_of_pos_right n hy
  have g2 : 0 < Nat.gcd m z := Nat.gcd_pos_of_pos_right m hz
  have a1 : n / Nat.gcd n y * Nat.gcd n y = n := Nat.div_mul_cancel (Nat.gcd_dvd_left n y)
  have a2 : y / Nat.gcd n y * Nat.gcd n y = y := Nat.div_mul_cancel (Nat.gcd_dvd_right n y)
  have a3 : m / Nat.gcd m z * Nat.gcd m z = m := Nat.div_mul_cancel (Nat.gcd_dvd_left m z)
  have a4 : z / Nat.gcd m z * Nat.gcd m z = z := Nat.div_mul_cancel (Nat.gcd_dvd_right m z)
  generalize hA : n / Nat.gcd n y = A at *
  generalize hB : y / Nat.gcd n y = B at *
  generalize hC : m / Nat.gcd m z = C at *
  generalize hD : z / Nat.gcd m z = D at *
  generalize hG : Nat.gcd n y = G at *
  generalize hH : Nat.gcd m z = H at *
  subst a1 a2 a3 a4
  have e1 : A * G * (D * H) = A * D * (G * H) := by ac_rfl
  have e2 : C * H * (B * G) = C * B * (G * H) := by ac_rfl
  rw [e1, e2] at h
  exact Nat.lt_of_mul_lt_mul_right h

theorem pick_eq {N : Nat} {lo hi w : Int} (h0 : 0 ≤ lo) (h1 : lo < hi) (h2 : hi ≤ 400) (w0 : 0 ≤ w) (w1 : w ≤ 65535) : ∃ a, law01_pickX N ⟨lo, hi⟩ (IntKind.wrap .u32 w) = some a ∧ lo ≤ a ∧ a ≤ hi := by
  have e1 : IntKind.wrap .u32 w = w := by rw [IntKind.wrap_u32]; omega
  have e2 : w64 w = w := w64_id (by omega) (by omega)
  have e3 : w64 (w64 (hi - lo) + 1) = hi - lo + 1 := by rw [w64_id (x := hi - lo) (by omega) (by omega), w64_id (by omega) (by omega)]
  have m1 : 0 ≤ w.tmod (hi - lo + 1) := Int.tmod_nonneg _ w0
  have m2 : w.tmod (hi - lo + 1) < hi - lo + 1 := Int.tmod_lt_of_pos _ (by omega)
  have e4 : (hi - lo + 1 != 0) = true := by simp; omega
  refine ⟨lo + w.tmod (hi - lo + 1), ?_, by omega, by omega⟩
  unfold law01_pickX
  simp only [e1, e2, e3, e4, chk, cond_true, Option.bind_some]
  rw [w64_id (by omega) (by omega)]

theorem at_row {N : Nat} {t : List GRow} (hN : 1001 ≤ N) (h : tabB t = true) {i : Nat} {r : GRow} (hi : t[i]? = some r) : steam_AtX N t r.P = some ((i : Int), 0) := by
  have hl := tab_len h
  have hil := (List.getElem?_eq_some_iff.1 hi).1
  have : lastAt r.P t t.length = some i := lastAt_some hi (Int.le_refl _) _ hil fun j x h1 _ hx => tab_ltP' h hi hx h1
  unfold steam_AtX
  rw [valid_eq (by omega) hN, h]
  simp [atR, this]
theorem at_below {N : Nat} {t : List GRow} (hN : 1001 ≤ N) (h : tabB t = true) {i : Nat} {r : GRow} (hi : t[i]? = some r) : steam_AtX N t (r.P - 1) = some (if i = 0 then (0, 7) else ((i : Int) - 1, 0)) := by
  have hl := tab_len h
  have hil := (List.getElem?_eq_some_iff.1 hi).1
  unfold steam_AtX
  rw [valid_eq (by omega) hN, h]
  cases i with
  | zero =>
    have : lastAt (r.P - 1) t t.length = none := lastAt_none _ fun j x _ hx => by have := tab_leP h hi hx (Nat.zero_le _); omega
    simp [atR, this]
  | succ i =>
    have hp : t[i]? = some t[i] := List.getElem?_eq_getElem (by omega)
    have h1 := tab_ltP' h hp hi (by omega)
    have : lastAt (r.P - 1) t t.length = some i := lastAt_some hp (by omega) _ (by omega) fun j x h1 _ hx => by have := tab_leP h hi hx (by omega); omega
    simp [atR, this]

theorem lines_true {N : Nat} (t : List GRow) (lv u v : Int) (l0 : 0 ≤ lv) (l1 : lv ≤ 255) (u0 : 0 ≤ u) (u1 : u ≤ 65535) (v0 : 0 ≤ v) (v1 : v ≤ 65535) (hl0 : t.length ≤ 9223372036854775807) (hN0 : 1001 + t.length ≤ N) : law01_SteamLinesX N t lv u v = some true := by
  have hW : law01_awakeX N = some true := rfl
  have hN : 1001 ≤ N := by omega
  unfold law01_SteamLinesX
  rw [right_eq hl0 (by omega)]
  cases htab : tabB t with
  | false => simp [hW]
  | true =>
    have hl := tab_len htab
    have hlen : t.length ≤ 1000 := by omega
    have ec : ((t.length : Int) != 0) = true := by rw [bne_iff_ne]; omega
    have em : (w64 lv).tmod (t.length : Int) = ((lv.toNat % t.length : Nat) : Int) := by
      rw [w64_id (by omega) (by omega)]
      obtain ⟨m, rfl⟩ := Int.eq_ofNat_of_zero_le l0
      rfl
    have hi := Nat.mod_lt lv.toNat (show t.length > 0 by omega)
    generalize lv.toNat % t.length = i at em hi
    have hr : t[i]? = some t[i] := List.getElem?_eq_getElem hi
    have hx : t[0]? = some t[0] := List.getElem?_eq_getElem (by omega)
    have hy : t[t.length - 1]? = some t[t.length - 1] := List.getElem?_eq_getElem (by omega)
    have g0 : getI t 0 = some t[0] := getI_at (i := 0) hx
    have g1 := getI_last hlen hl.1 hy
    generalize t[i] = r at hr
    generalize t[0] = x at hx g0
    generalize t[t.length - 1] = y at hy g1
    have hxy := tab_lt' htab hx hy (by omega)
    have px := tab_row htab hx
    have py := tab_row htab hy
    have pr := tab_row htab hr
    have ep : w64 (r.P - 1) = r.P - 1 := w64_id (by have := pr.p0; omega) (by have := pr.p1; omega)
    obtain ⟨a, ha, a0, a1⟩ := pick_eq (N := N) px.t0 hxy py.t1 u0 u1
    obtain ⟨b, hb, b0, b1⟩ := pick_eq (N := N) px.t0 hxy py.t1 v0 v1
    have hlo : ∃ (j : Nat) (c d : GRow) (n m : Nat), Lies t (if b < a then b else a) j c d n m ∧ steam_SaturationX N t (if b < a then b else a) = some (⟨((n / Nat.gcd n m : Nat) : Int), ((m / Nat.gcd n m : Nat) : Int)⟩, 0) :=
      sat_val hN htab hx hy (by split <;> simp [btw] <;> omega)
    have hhi : ∃ (j : Nat) (c d : GRow) (n m : Nat), Lies t (if b > a then b else a) j c d n m ∧ steam_SaturationX N t (if b > a then b else a) = some (⟨((n / Nat.gcd n m : Nat) : Int), ((m / Nat.gcd n m : Nat) : Int)⟩, 0) :=
      sat_val hN htab hx hy (by split <;> simp [btw] <;> omega)
    obtain ⟨j, c, d, n, m, L1, S1⟩ := hlo
    obtain ⟨j', c', d', n', m', L2, S2⟩ := hhi
    have q1 : 0 < Nat.gcd n m := Nat.gcd_pos_of_pos_right n L1.pos
    have q2 : 0 < Nat.gcd n' m' := Nat.gcd_pos_of_pos_right n' L2.pos
    have D1 : 0 < m / Nat.gcd n m := Nat.div_pos (Nat.le_of_dvd L1.pos (Nat.gcd_dvd_right n m)) q1
    have D2 : 0 < m' / Nat.gcd n' m' := Nat.div_pos (Nat.le_of_dvd L2.pos (Nat.gcd_dvd_right n' m')) q2
    have hco : Nat.gcd (n / Nat.gcd n m) (m / Nat.gcd n m) = 1 := by rw [Nat.gcd_div (Nat.gcd_dvd_left n m) (Nat.gcd_dvd_right n m), Nat.div_self q1]
    have k1 := Nat.le_trans (Nat.div_le_self n (Nat.gcd n m)) L1.most
    have k2 := Nat.le_trans (Nat.div_le_self m (Nat.gcd n m)) L1.top
    have k3 := Nat.le_trans (Nat.div_le_self n' (Nat.gcd n' m')) L2.most
    have k4 := Nat.le_trans (Nat.div_le_self m' (Nat.gcd n' m')) L2.top
    have hq : a ≠ b → (n / Nat.gcd n m) * (m' / Nat.gcd n' m') < (n' / Nat.gcd n' m') * (m / Nat.gcd n m) := fun hne => by
      refine quot_lt L1.pos L2.pos (rises htab ?_ L1 L2)
      split <;> split <;> omega
    have hs : a = b → n / Nat.gcd n m = n' / Nat.gcd n' m' ∧ m / Nat.gcd n m = m' / Nat.gcd n' m' := fun e => by
      subst e
      simp only [Int.lt_irrefl, gt_iff_lt, if_false] at S1 S2
      rw [S1] at S2
      simp only [Option.some.injEq, Prod.mk.injEq, GRatio.mk.injEq, and_true] at S2
      exact ⟨Int.ofNat.inj S2.1, Int.ofNat.inj S2.2⟩
    generalize n / Nat.gcd n m = A at *
    generalize m / Nat.gcd n m = B at *
    generalize n' / Nat.gcd n' m' = C at *
    generalize m' / Nat.gcd n' m' = E at *
    have w1 : w64 ((A : Int) * (E : Int)) = ((A * E : Nat) : Int) := by
      have : A * E ≤ 8000000 * 400 := Nat.mul_le_mul k1 k4
      rw [← Int.natCast_mul, w64_id] <;> omega
    have w2 : w64 ((C : Int) * (B : Int)) = ((C * B : Nat) : Int) := by
      have : C * B ≤ 8000000 * 400 := Nat.mul_le_mul k3 k2
      rw [← Int.natCast_mul, w64_id] <;> omega
    have hG : ref01_GcdX N (A : Int) (B : Int) = some 1 := by
      rw [refGcd_eq (by omega) (by omega) (by omega) (by omega), gcd_eq (by omega), hco]
      rfl
    have hT := table_eq hlen hN
    have hS := sat_at hN htab hx hy hr
    have hA := at_row hN htab hr
    have hB := at_below hN htab hr
    have z1 : ¬ ((B : Int) < 1) := by omega
    have z2 : ¬ ((E : Int) < 1) := by omega
    simp only [hT, Option.bind_some, Bool.not_true, cond_false, chk, ec, cond_true, em, getI_at hr, hS, hA, ep, hB, g0, g1, ha, hb, S1, S2, hG, hW, w1, w2, joinK, decide_eq_false z1, decide_eq_false z2]
    have tail : (bif a == b then (bif ([(A : Int), (B : Int)] : List Int) == [(C : Int), (E : Int)] then some true else (bif a != b then (bif decide (((A * E : Nat) : Int) < ((C * B : Nat) : Int)) then some true else some false) else some false)) else (bif a != b then (bif decide (((A * E : Nat) : Int) < ((C * B : Nat) : Int)) then some true else some false) else some false)) = some true := by
      by_cases e : a = b
      · obtain ⟨e1, e2⟩ := hs e
        subst e1 e2
        simp [e]
      · have := hq e
        have h3 : ((A * E : Nat) : Int) < ((C * B : Nat) : Int) := by omega
        have e' : (a == b) = false := by simpa using e
        have e'' : (a != b) = true := by simpa using e
        rw [e', e'', decide_eq_true h3]
        rfl
    rw [tail]
    cases i with
    | zero => simp
    | succ i =>
      have o1 : w64 (i : Int) = (i : Int) := w64_id (by omega) (by omega)
      have o2 : ((i : Int) + 1 == 0) = false := by simp; omega
      simp [o1, o2]
end Go.Proofs.Ytenpbiineblcjaa
