/-
  Plain Lean: the saturation at a temperature. No program in sight, no conditions.
-/
import Derived.Test.YtenpbiineblcjaaBase
namespace Go.Proofs.Ytenpbiineblcjaa

/-- The index of the row at or above the temperature, among all but the first. -/
def satK (t : List RowT) (temp : Int) : Int := findFrom (fun r => decide (temp ≤ r.T)) (t.drop 1) 0
def satN (a b : RowT) (temp : Int) : Int := a.P * (b.T - temp) + b.P * (temp - a.T)
/-- Saturation: N, D and the error. -/
def satR (t : List RowT) (temp : Int) : (Int × Int) × Int :=
  if tabOk t = false then ((0, 0), 1)
  else if inB temp (rowAt t 0).T (rowAt t (t.length - 1)).T = false then ((0, 0), 2)
  else
    let a := rowAt t (satK t temp)
    let b := rowAt t (satK t temp + 1)
    ((satN a b temp / Nat.gcd (satN a b temp).toNat (b.T - a.T).toNat, (b.T - a.T) / Nat.gcd (satN a b temp).toNat (b.T - a.T).toNat), 0)

theorem findFrom_spec {α : Type} (p : α → Bool) : ∀ (l : List α) (s : Nat), l.any p = true → ∃ k x, findFrom p l s = ((s + k : Nat) : Int) ∧ l[k]? = some x ∧ p x = true ∧ ∀ (j : Nat) (y : α), j < k → l[j]? = some y → p y = false
  | [], _, h => by simp at h
  | x :: l, s, h => by
    by_cases hx : p x
    · exact ⟨0, x, by simp [findFrom, hx], rfl, hx, fun j _ hj => absurd hj (by omega)⟩
    · simp only [Bool.not_eq_true] at hx
      rw [List.any_cons, hx, Bool.false_or] at h
      obtain ⟨k, y, h1, h2, h3, h4⟩ := findFrom_spec p l (s + 1) h
      refine ⟨k + 1, y, ?_, by simpa using h2, h3, fun j z hj hz => ?_⟩
      · rw [findFrom, hx]
        simp only [Bool.false_eq_true, if_false]
        rw [h1]
        congr 1; omega
      · cases j with
        | zero => simp at hz; subst hz; exact hx
        | succ j => exact h4 j z (by omega) (by simpa using hz)

theorem stepOk_lt {a b : RowT} (h : stepOk a b = true) : a.T < b.T ∧ a.P < b.P ∧ a.L < b.L ∧ a.S ≤ b.S := by
  simp [stepOk] at h
  omega

theorem satK_spec {t : List RowT} {temp : Int} (ht : tabOk t = true) (h0 : (rowAt t 0).T ≤ temp) (h1 : temp ≤ (rowAt t (t.length - 1)).T) :
    ∃ (k : Nat) (a b : RowT), satK t temp = k ∧ k + 1 < t.length ∧ t[k]? = some a ∧ t[k + 1]? = some b ∧ a.T ≤ temp ∧ temp ≤ b.T ∧ a.T < b.T ∧ RowB a ∧ RowB b ∧ (0 < k → a.T < temp) := by
  obtain ⟨l2, l20⟩ := tabOk_len ht
  have hlast := rowAt_get (t := t) (level := t.length - 1) (by omega) (by omega)
  have hfirst := rowAt_get (t := t) (level := 0) (by omega) (by omega)
  have e1 : ((t.length : Int) - 1).toNat = t.length - 1 := by omega
  rw [e1] at hlast
  have hany : (t.drop 1).any (fun r => decide (temp ≤ r.T)) = true := by
    rw [List.any_eq_true]
    refine ⟨_, List.mem_of_getElem? (i := t.length - 2) (a := rowAt t (t.length - 1)) ?_, by simpa using h1⟩
    rw [List.getElem?_drop, show 1 + (t.length - 2) = t.length - 1 by omega]
    exact hlast
  obtain ⟨k, b, hk, hb, hp, hn⟩ := findFrom_spec _ _ 0 hany
  rw [List.getElem?_drop] at hb
  have hlt := (List.getElem?_eq_some_iff.1 hb).1
  have ha : t[k]? = some (t[k]'(by omega)) := List.getElem?_eq_getElem (by omega)
  have hs : steps t = true := by
    simp only [tabOk, Bool.and_eq_true] at ht
    exact ht.2.2
  rw [Nat.add_comm] at hb
  have hst := stepOk_lt ((steps_iff t).1 hs k _ _ ha hb)
  have haT : t[k].T ≤ temp ∧ (0 < k → t[k].T < temp) := by
    rcases Nat.eq_zero_or_pos k with h | h
    · subst h
      have : t[0]? = some (rowAt t 0) := by simpa using hfirst
      rw [ha] at this
      have e := Option.some.inj this
      exact ⟨by rw [e]; exact h0, fun h => absurd h (by omega)⟩
    · have := hn (k - 1) (t[k]'(by omega)) (by omega) (by rw [List.getElem?_drop, show 1 + (k - 1) = k by omega]; exact ha)
      simp at this
      exact ⟨by omega, fun _ => this⟩
  exact ⟨k, _, b, by rw [satK, hk]; simp, by omega, ha, hb, haT.1, by simpa using hp, hst.1, tabOk_row ht ha, tabOk_row ht hb, haT.2⟩

theorem satN_bd {a b : RowT} {temp : Int} (ha : RowB a) (hb : RowB b) (h0 : a.T ≤ temp) (h1 : temp ≤ b.T) (h2 : a.T < b.T) : 0 < satN a b temp ∧ satN a b temp ≤ 8000000 ∧
    0 ≤ a.P * (b.T - temp) ∧ a.P * (b.T - temp) ≤ 4000000 ∧ 0 ≤ b.P * (temp - a.T) ∧ b.P * (temp - a.T) ≤ 4000000 := by
  have := ha.t0; have := hb.t1; have := ha.p0; have := hb.p0
  have x := mul_bd (show 0 ≤ a.P by omega) ha.p1 (show 0 ≤ b.T - temp by omega) (show b.T - temp ≤ 400 by omega)
  have y := mul_bd (show 0 ≤ b.P by omega) hb.p1 (show 0 ≤ temp - a.T by omega) (show temp - a.T ≤ 400 by omega)
  have hx : b.T - temp ≤ a.P * (b.T - temp) := by
    have := Int.mul_le_mul_of_nonneg_right (show (1 : Int) ≤ a.P by omega) (show 0 ≤ b.T - temp by omega)
    omega
  have hy : temp - a.T ≤ b.P * (temp - a.T) := by
    have := Int.mul_le_mul_of_nonneg_right (show (1 : Int) ≤ b.P by omega) (show 0 ≤ temp - a.T by omega)
    omega
  unfold satN
  omega

end Go.Proofs.Ytenpbiineblcjaa
