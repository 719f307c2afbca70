/-
  Plain: bills that are split among holders. No conditions.
-/
import Derived.Test.YtflmombnmnblnaaPSpl
namespace Go.Proofs.Ytflmombnmnblnaa
open Go.RowKit
theorem wts_loop (N : Nat) (ws : List Int) (k : List Int × Int → Option Bool) (h8 : ws.length ≤ 8) (hw : ∀ x ∈ ws, 0 ≤ x ∧ x ≤ 4294967295) : ∀ (n i : Nat) (acc : List Int) (s : Int), (ws.drop i).length < n → acc.length = i → i ≤ ws.length → 0 ≤ s → s ≤ 4294967295 * i →
  Qco N ws k n acc s i = k (acc ++ (ws.drop i).map (fun x => x / 16), s + ((ws.drop i).map fun x => x / 16).sum) := by
 intro n
 induction n with
 | zero => intro i _ _ h; exact absurd h (Nat.not_lt_zero _)
 | succ n ih =>
  intro i acc s h hacc hi hs hs'
  rw [Qco]
  cases hd : ws.drop i with
  | nil =>
   have := Qed hd
   simp [show ¬ ((i : Int) < ws.length) from by omega]
  | cons b t =>
   obtain ⟨hg, hd', hlt⟩ := Qdu hd
   have hb := hw b (List.mem_of_getElem? hg)
   have e1 : w64 ((i : Int) + 1) = ((i + 1 : Nat) : Int) := Qb3 (by omega) (by omega)
   have e2 : w64 (b / 16) = b / 16 := Qb3 (by omega) (by omega)
   have e3 : w64 (s + b / 16) = s + b / 16 := Qb3 (by omega) (by omega)
   simp only [show decide ((i : Int) < ws.length) = true from by simpa using hlt, cond_true, Qei hg, Option.bind_some, e1, e2, e3, chk]
   rw [show decide ((acc.length + [b / 16].length) * 8 ≤ 140737488355328) = true from by simp; omega, cond_true, ih (i + 1) _ _ (by rw [hd']; rw [hd] at h; simp at h; omega) (by simp [hacc]) (by omega) (by omega) (by omega), hd']
   simp only [List.append_assoc, List.cons_append, List.nil_append, List.map_cons, List.sum_cons, Int.add_assoc]
theorem add_loop (N : Nat) (w : List Int) (q : List Int × Int) (k : List Int × Int × List Int → Option Bool) (h8 : w.length ≤ 8) (hq : q.1.length = w.length) (hqb : ∀ x ∈ q.1, 0 ≤ x ∧ x ≤ 1000000000001) : ∀ (n i : Nat) (s : Int) (g : List Int), (q.1.drop i).length < n → i ≤ w.length → g.length = w.length → 0 ≤ s → s ≤ 1000000000001 * i → (∀ x ∈ g, 0 ≤ x ∧ x ≤ 100000000000000 + 1000000000001 * i) →
  ∃ g', Qcp N w q k n w s i g = k (w, s + (q.1.drop i).sum, g') ∧ g'.length = w.length ∧ ∀ (j : Nat) x y, g[j]? = some x → q.1[j]? = some y → g'[j]? = some (if i ≤ j then x + y else x) := by
 intro n
 induction n with
 | zero => intro i _ _ h; exact absurd h (Nat.not_lt_zero _)
 | succ n ih =>
  intro i s g h hi hg hs hs' hgb
  rw [Qcp]
  cases hd : q.1.drop i with
  | nil =>
   have := Qed hd
   refine ⟨g, ?_, hg, fun j x y hx hy => ?_⟩
   ·simp [show ¬ ((i : Int) < w.length) from by omega]
   ·have hj := (List.getElem?_eq_some_iff.1 hx).1
    rw [if_neg (by omega)]; exact hx
  | cons b t =>
   obtain ⟨hb, hd', hlt⟩ := Qdu hd
   have hbb := hqb b (List.mem_of_getElem? hb)
   obtain ⟨x, hx⟩ : ∃ x, g[i]? = some x := ⟨_, List.getElem?_eq_getElem (by omega)⟩
   have hxb := hgb x (List.mem_of_getElem? hx)
   have e1 : w64 ((i : Int) + 1) = ((i + 1 : Nat) : Int) := Qb3 (by omega) (by omega)
   have e2 : w64 (s + b) = s + b := Qb3 (by omega) (by omega)
   have e3 : w64 (x + b) = x + b := Qb3 (by omega) (by omega)
   have e4 : ((i : Int)).toNat = i := by omega
   have c1 : (decide ((0 : Int) ≤ (i : Int)) && decide (i < (w.length : Int).toNat)) = true := by simp; omega
   simp only [show decide ((i : Int) < w.length) = true from by simp; omega, cond_true, Qei hb, Option.bind_some, e1, e2, e3, e4, chk, c1, hx]
   obtain ⟨g', g1, g2, g3⟩ := ih (i + 1) (s + b) (g.set i (x + b)) (by rw [hd']; rw [hd] at h; simp at h; omega) (by omega) (by simp [hg]) (by omega) (by omega) (fun z hz => by
    rcases List.mem_or_eq_of_mem_set hz with hz | rfl
    ·have := hgb z hz; omega
    ·omega)
   refine ⟨g', ?_, g2, fun j z y hz hy => ?_⟩
   ·rw [g1, hd', List.sum_cons, Int.add_assoc]
   ·by_cases hj : j = i
    ·subst hj
     rw [hx] at hz; cases hz
     rw [hb] at hy; cases hy
     have := g3 j (x + b) b (by rw [List.getElem?_set_self (by omega)]) hb
     rw [if_neg (by omega)] at this
     rw [if_pos (Nat.le_refl _)]; exact this
    ·have := g3 j z y (by rw [List.getElem?_set_ne (by omega)]; exact hz) hy
     rw [this]
     by_cases hij : i ≤ j
     ·rw [if_pos hij, if_pos (by omega)]
     ·rw [if_neg hij, if_neg (by omega)]
theorem far_loop (N : Nat) (us w g : List Int) (q : List Int × Int) (k : Unit → Option Bool) (h8 : w.length ≤ 8) (hu : us.length ≤ 12) (hg : g.length = w.length) (hq : q.1.length = w.length)
  (hb : ∀ (j : Nat) x y, g[j]? = some x → q.1[j]? = some y → x - y ≤ us.length + 1 ∧ -(us.length : Int) - 1 ≤ x - y) : ∀ (n i : Nat), w.length - i < n → Qcq N us w g q k n w i = k () := by
 intro n
 induction n with
 | zero => intro i h; exact absurd h (Nat.not_lt_zero _)
 | succ n ih =>
  intro i h
  rw [Qcq]
  by_cases hi : i < w.length
  ·obtain ⟨x, hx⟩ : ∃ x, g[i]? = some x := ⟨_, List.getElem?_eq_getElem (by omega)⟩
   obtain ⟨y, hy⟩ : ∃ y, q.1[i]? = some y := ⟨_, List.getElem?_eq_getElem (by omega)⟩
   obtain ⟨b1, b2⟩ := hb i x y hx hy
   have e1 : w64 ((i : Int) + 1) = ((i + 1 : Nat) : Int) := Qb3 (by omega) (by omega)
   have e2 : w64 (x - y) = x - y := Qb3 (by omega) (by omega)
   have e3 : w64 ((us.length : Int) + 1) = (us.length : Int) + 1 := Qb3 (by omega) (by omega)
   have e5 : w64 (w64 (0 - (us.length : Int)) - 1) = -(us.length : Int) - 1 := by rw [Qb3 (x := 0 - (us.length : Int)) (by omega) (by omega), Qb3 (by omega) (by omega)]; omega
   have e4 : ((i : Int)).toNat = i := by omega
   have c1 : (decide ((0 : Int) ≤ (i : Int)) && decide (i < (w.length : Int).toNat)) = true := by simp; omega
   simp only [show decide ((i : Int) < w.length) = true from by simpa using hi, cond_true, Qei hy, Option.bind_some, e1, e2, e3, e4, e5, chk, c1, hx]
   rw [show decide (x - y > (us.length : Int) + 1) = false from by simp; omega, cond_false, show decide (x - y < -(us.length : Int) - 1) = false from by simp; omega, cond_false]
   exact ih (i + 1) (by omega)
  ·rw [show decide ((i : Int) < (w.length : Int)) = false from by simpa using hi, cond_false]
def coin (l : List GBracket) (u : Int) : Int := chg l 0 u / 1000
theorem Qjn {l : List GBracket} (hp : Qh7 l) {u : Int} (h : 0 ≤ u) : 0 ≤ coin l u ∧ coin l u ≤ u := by
 obtain ⟨h1, h2⟩ := chg_bd l 0 u hp h
 unfold coin
 omega
theorem coin_mono {l : List GBracket} (hp : Qh7 l) {u v : Int} (h : 0 ≤ u) (h' : u ≤ v) : coin l u ≤ coin l v := Int.ediv_le_ediv (by decide) (chg_mono l 0 u v hp h h')
section
variable {N : Nat} {l : List GBracket}
theorem charge_at (hl : l.length ≤ 1000) (hN : 2000 ≤ N) (ht : tarB l = true) {u : Int} (h0 : 0 ≤ u) (h1 : u ≤ 1000000000000) : Qe9 N l u = some (coin l u, 0) := by
 simp [Qe9, tarP_eq hl hN, ht, Qh1, Qhw.2 ⟨h0, h1⟩, Qjo hl hN (Qh6 ht) h0 h1, coin]
theorem bill_at (hl : l.length ≤ 1000) (hN : 2000 ≤ N) (ht : tarB l = true) {u x : Int} (h0 : 0 ≤ u) (hx : 0 ≤ x) (h1 : u + x ≤ 1000000000000) : Qgh N l u x = some (coin l (u + x) - coin l u, 0) := by
 have hp := Qh6 ht
 obtain ⟨c1, c2⟩ := Qjn hp h0
 obtain ⟨d1, d2⟩ := Qjn hp (show 0 ≤ u + x by omega)
 have e0 : w64 (u + x) = u + x := Qb3 (by omega) (by omega)
 have e3 : w64 (coin l (u + x) - coin l u) = coin l (u + x) - coin l u := Qb3 (by omega) (by omega)
 have e1 := Qjo hl hN hp (show 0 ≤ u + x by omega) h1
 have e2 := Qjo hl hN hp h0 (show u ≤ 1000000000000 by omega)
 simp only [Qgh, Qcg, tarP_eq hl hN, ht, Qh1, Qhw.2 (show 0 ≤ u ∧ u ≤ 1000000000000 by omega), Qhw.2 (show 0 ≤ x ∧ x ≤ 1000000000000 by omega), Option.bind_some, e0, Bool.not_true, cond_false, show decide (u + x > 1000000000000) = false from by simp; omega, e1, e2]
 exact congrArg (fun z => some (z, (0 : Int))) e3
theorem bills_loop (hl : l.length ≤ 1000) (hN : 2000 ≤ N) (ht : tarB l = true) (us w : List Int) (hu : us.length ≤ 12) (hub : ∀ x ∈ us, 0 ≤ x ∧ x ≤ 4294967295) (hw : Wts w) (hW : 0 < w.sum) (k : List Int × Int × Int × List Int → Option Bool)
  (hk : ∀ u g, 0 ≤ u → u ≤ 100000000000 → g.length = w.length → (∀ (j : Nat) x y, w[j]? = some x → g[j]? = some y → coin l u * x - w.sum * us.length ≤ w.sum * y ∧ w.sum * y ≤ coin l u * x + w.sum * us.length) → k (w, u, coin l u, g) = some true) :
  ∀ (n i : Nat) (u : Int) (g : List Int), (us.drop i).length < n → i ≤ us.length → 0 ≤ u → u ≤ 4294967295 * i → g.length = w.length → (∀ x ∈ g, 0 ≤ x ∧ x ≤ 1000000000001 * i) → (∀ (j : Nat) x y, w[j]? = some x → g[j]? = some y → coin l u * x - w.sum * i ≤ w.sum * y ∧ w.sum * y ≤ coin l u * x + w.sum * i) →
  Qb6 N us w l k n w u (coin l u) i g = some true := by
 intro n
 induction n with
 | zero => intro i _ _ h; exact absurd h (Nat.not_lt_zero _)
 | succ n ih =>
  intro i u g h hi hu0 hu1 hg hgb hq
  rw [Qb6]
  have h8 := hw.1
  cases hd : us.drop i with
  | nil =>
   have := Qed hd
   have e : i = us.length := by omega
   subst e
   rw [show decide (((us.length : Nat) : Int) < (us.length : Int)) = false from by simp, cond_false]
   exact hk u g hu0 (by omega) hg hq
  | cons b t =>
   obtain ⟨hb, hd', hlt⟩ := Qdu hd
   have hbb := hub b (List.mem_of_getElem? hb)
   have hp := Qh6 ht
   have e1 : w64 ((i : Int) + 1) = ((i + 1 : Nat) : Int) := Qb3 (by omega) (by omega)
   have e2 : w64 b = b := Qb3 (by omega) (by omega)
   have e3 : w64 (u + b) = u + b := Qb3 (by omega) (by omega)
   have hm := coin_mono (l := l) hp hu0 (show u ≤ u + b by omega)
   obtain ⟨c1, c2⟩ := Qjn hp hu0
   obtain ⟨d1, d2⟩ := Qjn hp (show 0 ≤ u + b by omega)
   have e4 : w64 (coin l u + (coin l (u + b) - coin l u)) = coin l (u + b) := by rw [Qb3 (by omega) (by omega)]; omega
   obtain ⟨r, r1, r2, r3, r4⟩ := split_eq (N := N) (a := coin l (u + b) - coin l u) (w := w) (by omega) hw hW (by omega) (by omega)
   have hrb : ∀ x ∈ r, 0 ≤ x ∧ x ≤ 1000000000001 := fun x hx => by
    obtain ⟨j, hj, rfl⟩ := List.mem_iff_getElem.1 hx
    obtain ⟨z, hz⟩ : ∃ z, w[j]? = some z := ⟨_, List.getElem?_eq_getElem (by omega)⟩
    exact (r4 j z _ hz (List.getElem?_eq_getElem hj)).2.2
   simp only [show decide ((i : Int) < us.length) = true from by simpa using hlt, cond_true, Qei hb, Option.bind_some, e1, e2, e3, bill_at hl hN ht hu0 hbb.1 (show u + b ≤ 1000000000000 by omega), Qcg, show ((0 : Int) != 0) = false from rfl, cond_false, show decide (coin l (u + b) - coin l u < 0) = false from by simp; omega, e4, chk, List.nil_append]
   rw [show decide ((([] : List Int).length + w.length) * 8 ≤ 140737488355328) = true from by simp; omega, cond_true, r1, Option.bind_some]
   dsimp only
   rw [show ((0 : Int) != 0) = false from rfl, cond_false, show (((r.length : Nat) : Int) != (w.length : Int)) = false from by rw [r2]; simp, cond_false]
   obtain ⟨g', g1, g2, g3⟩ := add_loop N w (r, 0) (fun x => match x with | (y81, y82, y83) => bif (y82 != coin l (u + b) - coin l u) then some false else Qb6 N us w l k n y81 (u + b) (coin l (u + b)) ((i + 1 : Nat) : Int) y83) h8 r2 hrb N 0 0 g (by simp; omega) (by omega) hg (Int.le_refl _) (by simp) (fun x hx => by have := hgb x hx; omega)
   refine g1.trans ?_
   dsimp only
   rw [List.drop_zero, r3, Int.zero_add, show (coin l (u + b) - coin l u != coin l (u + b) - coin l u) = false from by simp, cond_false]
   refine ih (i + 1) (u + b) g' (by rw [hd']; rw [hd] at h; simp at h; omega) (by omega) (by omega) (by omega) g2 (fun x hx => ?_) (fun j x y hx hy => ?_)
   ·obtain ⟨j, hj, rfl⟩ := List.mem_iff_getElem.1 hx
    obtain ⟨a, ha⟩ : ∃ a, g[j]? = some a := ⟨_, List.getElem?_eq_getElem (by omega)⟩
    obtain ⟨c, hc⟩ : ∃ c, r[j]? = some c := ⟨_, List.getElem?_eq_getElem (by omega)⟩
    have h1 := g3 j a c ha hc
    rw [if_pos (Nat.zero_le _), List.getElem?_eq_getElem hj] at h1
    have h2 : g'[j] = a + c := by simpa using h1
    have h3 := hgb a (List.mem_of_getElem? ha)
    have h4 := hrb c (List.mem_of_getElem? hc)
    rw [h2]; omega
   ·have hjl := (List.getElem?_eq_some_iff.1 hx).1
    obtain ⟨a, ha⟩ : ∃ a, g[j]? = some a := ⟨_, List.getElem?_eq_getElem (by omega)⟩
    obtain ⟨c, hc⟩ : ∃ c, r[j]? = some c := ⟨_, List.getElem?_eq_getElem (by omega)⟩
    have h1 := g3 j a c ha hc
    rw [if_pos (Nat.zero_le _), hy] at h1
    have h2 : y = a + c := by simpa using h1
    obtain ⟨q1, q2⟩ := hq j x a hx ha
    obtain ⟨s1, s2, _⟩ := r4 j x c hx hc
    rw [Int.sub_mul] at s1 s2
    rw [h2, Int.mul_add, Int.natCast_add, Int.mul_add, Int.natCast_one, Int.mul_one]
    omega
end
end Go.Proofs.Ytflmombnmnblnaa
