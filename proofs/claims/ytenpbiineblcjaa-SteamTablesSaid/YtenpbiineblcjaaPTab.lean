/-
  Plain laws on what the functions of tables compute: whether a table is valid, its copy, the level of a pressure, the saturation. No conditions.
-/
import Derived.Test.YtenpbiineblcjaaX2
namespace Go.Proofs.Ytenpbiineblcjaa
open Go.RowKit

theorem w64_id {x : Int} (h : -9223372036854775808 ≤ x) (h' : x ≤ 9223372036854775807) : w64 x = x := by
  unfold w64
  rw [IntKind.wrap_i64]
  omega
theorem getI_at {α : Type} {l : List α} {i : Nat} {x : α} (h : l[i]? = some x) : getI l (i : Int) = some x := by
  simp [getI, h]

def btw (a lo hi : Int) : Bool := decide (lo ≤ a) && decide (a ≤ hi)
def rowB (r : GRow) : Bool := btw r.T 0 400 && btw r.P 1 10000 && btw r.Liquid 0 4000 && btw r.Silica 0 2000 && decide (r.Liquid < r.Vapour) && decide (r.Vapour ≤ 4000)
def stepB (o r : GRow) : Bool := decide (o.T < r.T) && decide (o.P < r.P) && decide (o.Liquid < r.Liquid) && decide (o.Silica ≤ r.Silica)
def stepsB : List GRow → Bool
  | a :: b :: l => stepB a b && stepsB (b :: l)
  | _ => true
def tabB (t : List GRow) : Bool := btw t.length 2 20 && t.all rowB && stepsB t

theorem in_eq (N : Nat) (a lo hi : Int) : ref01_InX N a lo hi = some (btw a lo hi) := by
  unfold ref01_InX btw
  by_cases h : lo ≤ a <;> simp [h]
theorem within_eq (N : Nat) (a lo hi : Int) : steam_withinX N a lo hi = some (btw a lo hi) := by
  unfold steam_withinX btw
  by_cases h : lo ≤ a <;> simp [h]
theorem alone_eq (N : Nat) (r : GRow) : steam_Row_aloneX N r = some (rowB r) := by
  unfold steam_Row_aloneX rowB
  simp only [within_eq, Option.bind_some]
  cases btw r.T 0 400 <;> cases btw r.P 1 10000 <;> cases btw r.Liquid 0 4000 <;> cases btw r.Silica 0 2000 <;> by_cases h : r.Liquid < r.Vapour <;> simp [h]

theorem drop_cons {α : Type} {t : List α} {i : Nat} {a : α} {l : List α} (h : t.drop i = a :: l) : t[i]? = some a ∧ t.drop (i + 1) = l ∧ i < t.length := by
  have hlt : i < t.length := by
    rcases Nat.lt_or_ge i t.length with h' | h'
    · exact h'
    · rw [List.drop_eq_nil_of_le h'] at h; cases h
  rw [List.drop_eq_getElem_cons hlt] at h
  injection h with h1 h2
  exact ⟨by rw [List.getElem?_eq_getElem hlt, h1], h2, hlt⟩
theorem drop_nil {α : Type} {t : List α} {i : Nat} (h : t.drop i = []) : t.length ≤ i := List.drop_eq_nil_iff.1 h

theorem badRow_loop (N : Nat) (t : List GRow) (k : Unit → Option Int) (hl : t.length ≤ 1000) : ∀ (n i : Nat), (t.drop i).length < n → i ≤ t.length →
    slices_IndexFunc_steam_Row_steam_RowX_1_loop1 N t k n i = bif (t.drop i).all rowB then k () else some ((i : Int) + ((t.drop i).findIdx fun r => !rowB r : Nat)) := by
  intro n
  induction n with
  | zero => intro i h; omega
  | succ n ih =>
    intro i h hi
    unfold slices_IndexFunc_steam_Row_steam_RowX_1_loop1
    cases hd : t.drop i with
    | nil =>
      have := drop_nil hd
      rw [show (decide ((i : Int) < (t.length : Int))) = false by simp; omega]
      rfl
    | cons a l =>
      obtain ⟨h1, h2, h3⟩ := drop_cons hd
      rw [show (decide ((i : Int) < (t.length : Int))) = true by simp; omega]
      simp only [cond_true, getI_at h1, Option.bind_some, steam_all_steam_Row_1X_1, alone_eq]
      cases hr : rowB a with
      | false => simp [hr, List.findIdx_cons]
      | true =>
        have e : w64 ((i : Int) + 1) = ((i + 1 : Nat) : Int) := by rw [w64_id] <;> omega
        rw [e]
        have := ih (i + 1) (by rw [h2]; rw [hd] at h; simpa using h) (by omega)
        simp only [Bool.not_true, cond_false, this, h2, List.all_cons, hr, Bool.true_and, List.findIdx_cons]
        congr 2
        push_cast
        omega
theorem allRow_eq {N : Nat} {t : List GRow} (hl : t.length ≤ 1000) (hN : 1001 ≤ N) : steam_all_steam_RowX_1 N t = some (t.all rowB) := by
  have := badRow_loop N t (fun _ => some (-1)) hl N 0 (by simp; omega) (Nat.zero_le _)
  rw [show ((0 : Nat) : Int) = 0 from rfl, List.drop_zero] at this
  unfold steam_all_steam_RowX_1 slices_ContainsFunc_steam_Row_steam_RowX_1 slices_IndexFunc_steam_Row_steam_RowX_1 joinK
  dsimp only
  rw [this]
  cases h : t.all rowB with
  | true => simp
  | false => simp

theorem steps_loop (N : Nat) (t : List GRow) (k : Unit → Option Bool) (hl : t.length ≤ 1000) : ∀ (n i : Nat), (t.drop i).length < n → i < t.length →
    steam_Table_validX_loop1 N t k n i = bif stepsB (t.drop i) then k () else some false := by
  intro n
  induction n with
  | zero => intro i h; omega
  | succ n ih =>
    intro i h hi
    unfold steam_Table_validX_loop1
    have hdr : ∀ x, (t.drop (1 : Int).toNat)[i]? = some x ↔ t[i + 1]? = some x := fun x => by
      rw [show (1 : Int).toNat = 1 from rfl, List.getElem?_drop, Nat.add_comm]
    have hlen : (t.drop (1 : Int).toNat).length = t.length - 1 := by simp
    cases hd : t.drop i with
    | nil => have := drop_nil hd; omega
    | cons a l =>
      obtain ⟨h1, h2, h3⟩ := drop_cons hd
      cases l with
      | nil =>
        have := drop_nil h2
        rw [show (decide ((i : Int) < ((t.drop (1 : Int).toNat).length : Int))) = false by rw [hlen]; simp; omega]
        rfl
      | cons b l =>
        obtain ⟨h4, h5, h6⟩ := drop_cons h2
        rw [show (decide ((i : Int) < ((t.drop (1 : Int).toNat).length : Int))) = true by rw [hlen]; simp; omega]
        have e : w64 ((i : Int) + 1) = ((i + 1 : Nat) : Int) := by rw [w64_id] <;> omega
        simp only [cond_true, getI_at ((hdr b).2 h4), getI_at h1, Option.bind_some, e]
        have := ih (i + 1) (by rw [h2]; rw [hd] at h; simpa using h) (by omega)
        simp only [this, h2, stepsB, stepB]
        by_cases c1 : b.T ≤ a.T
        · simp [c1, Int.not_lt.2 c1]
        · by_cases c2 : b.P ≤ a.P
          · simp [c1, c2, Int.not_lt.2 c2]
          · by_cases c3 : b.Liquid ≤ a.Liquid
            · simp [c1, c2, c3, Int.not_lt.2 c3]
            · by_cases c4 : b.Silica < a.Silica
              · simp [c1, c2, c3, c4, Int.not_le.2 c4]
              · simp [c1, c2, c3, c4, Int.not_le.1 c1, Int.not_le.1 c2, Int.not_le.1 c3, Int.not_lt.1 c4]

theorem valid_eq {N : Nat} {t : List GRow} (hl : t.length ≤ 1000) (hN : 1001 ≤ N) : steam_Table_validX N t = some (tabB t) := by
  unfold steam_Table_validX tabB
  rw [within_eq, allRow_eq hl hN]
  cases hb : btw t.length 2 20 with
  | false => rfl
  | true =>
    have h2 : 2 ≤ t.length := by simp [btw] at hb; omega
    cases ha : t.all rowB with
    | false => rfl
    | true =>
      have := steps_loop N t (fun _ => some true) hl N 0 (by simp; omega) (by omega)
      rw [show ((0 : Nat) : Int) = 0 from rfl, List.drop_zero] at this
      simp only [Option.bind_some, Bool.not_true, cond_false, joinK, Bool.true_and]
      rw [this]
      rw [show (decide ((1 : Int) ≤ (t.length : Int))) = true by rw [decide_eq_true_eq]; omega]
      cases stepsB t <;> simp [chk]

/-- The reference's look at rows. -/
def lookB : Option GRow → List GRow → Bool
  | _, [] => true
  | o, a :: l => rowB a && (match o with | none => true | some p => stepB p a) && lookB (some a) l
theorem lookB_some : ∀ (a : GRow) (l : List GRow), lookB (some a) l = (l.all rowB && stepsB (a :: l))
  | _, [] => rfl
  | a, b :: l => by
    rw [lookB, lookB_some b l, List.all_cons, stepsB]
    cases rowB b <;> cases l.all rowB <;> cases stepB a b <;> simp
theorem lookB_none : ∀ (t : List GRow), lookB none t = (t.all rowB && stepsB t)
  | [] => rfl
  | a :: l => by
    rw [lookB, lookB_some a l, List.all_cons]
    cases rowB a <;> simp

theorem right_loop (N : Nat) (t : List GRow) (k : Unit → Option Bool) (hl : t.length ≤ 9223372036854775807) : ∀ (n i : Nat), (t.drop i).length < n → i ≤ t.length →
    ref01_RightX_loop1 N t k n i = bif lookB (if i = 0 then none else t[i - 1]?) (t.drop i) then k () else some false := by
  intro n
  induction n with
  | zero => intro i h; omega
  | succ n ih =>
    intro i h hi
    unfold ref01_RightX_loop1
    cases hd : t.drop i with
    | nil =>
      have := drop_nil hd
      rw [show (decide ((i : Int) < (t.length : Int))) = false by simp; omega]
      rfl
    | cons a l =>
      obtain ⟨h1, h2, h3⟩ := drop_cons hd
      rw [show (decide ((i : Int) < (t.length : Int))) = true by simp; omega]
      have e : w64 ((i : Int) + 1) = ((i + 1 : Nat) : Int) := by rw [w64_id] <;> omega
      have := ih (i + 1) (by rw [h2]; rw [hd] at h; simpa using h) (by omega)
      simp only [Nat.add_sub_cancel, Nat.succ_ne_zero, if_false, h1, h2] at this
      simp only [cond_true, getI_at h1, Option.bind_some, e, in_eq, this, lookB, rowB, joinK]
      cases btw a.T 0 400
      · rfl
      cases btw a.P 1 10000
      · rfl
      cases btw a.Liquid 0 4000
      · rfl
      cases btw a.Silica 0 2000
      · rfl
      by_cases c1 : a.Vapour ≤ a.Liquid
      · simp [c1, Int.not_lt.2 c1]
      by_cases c2 : a.Vapour > 4000
      · simp [c1, c2, Int.not_le.2 c2]
      cases i with
      | zero => simp [c1, c2, Int.not_le.1 c1, Int.not_lt.1 c2]
      | succ i =>
        have hp : t[i]? = some t[i] := List.getElem?_eq_getElem (by omega)
        have e2 : w64 (((i + 1 : Nat) : Int) - 1) = (i : Int) := by rw [w64_id] <;> omega
        have e3 : (decide (((i + 1 : Nat) : Int) > 0)) = true := by rw [decide_eq_true_eq]; omega
        generalize t[i] = b at hp
        simp only [Bool.not_true, cond_false, e3, cond_true, e2, getI_at hp, Option.bind_some, Nat.add_sub_cancel, hp, stepB, show ¬ (i + 1 = 0) by omega, if_false, decide_eq_false c1, decide_eq_false c2, decide_eq_true (Int.not_le.1 c1), decide_eq_true (Int.not_lt.1 c2), Bool.true_and]
        by_cases d1 : a.T ≤ b.T
        · simp [d1, Int.not_lt.2 d1]
        · by_cases d2 : a.P ≤ b.P
          · simp [d1, d2, Int.not_lt.2 d2]
          · by_cases d3 : a.Liquid ≤ b.Liquid
            · simp [d1, d2, d3, Int.not_lt.2 d3]
            · by_cases d4 : a.Silica < b.Silica
              · simp [d1, d2, d3, d4, Int.not_le.2 d4]
              · simp [d1, d2, d3, d4, Int.not_le.1 d1, Int.not_le.1 d2, Int.not_le.1 d3, Int.not_lt.1 d4]

theorem right_eq {N : Nat} {t : List GRow} (hl : t.length ≤ 9223372036854775807) (hN : t.length < N) : ref01_RightX N t = some (tabB t) := by
  have := fun k => right_loop N t k hl N 0 (by simp; omega) (Nat.zero_le _)
  unfold ref01_RightX joinK tabB
  rw [show ((0 : Nat) : Int) = 0 from rfl] at this
  dsimp only
  rw [this]
  simp only [List.drop_zero, if_true, lookB_none, btw]
  by_cases h : (2 : Int) ≤ t.length <;> cases t.all rowB <;> cases stepsB t <;> simp [h]

theorem copy_loop (N : Nat) (t : List GRow) (k : List GRow → Option (List GRow)) (hl : t.length ≤ 1000) : ∀ (n i : Nat) (acc : List GRow), (t.drop i).length < n → i ≤ t.length → acc.length = i →
    law01_TableX_loop1 N t k n acc i = k (acc ++ t.drop i) := by
  intro n
  induction n with
  | zero => intro i acc h; omega
  | succ n ih =>
    intro i acc h hi ha
    unfold law01_TableX_loop1
    cases hd : t.drop i with
    | nil =>
      have := drop_nil hd
      rw [show (decide ((i : Int) < (t.length : Int))) = false by simp; omega]
      simp
    | cons a l =>
      obtain ⟨h1, h2, h3⟩ := drop_cons hd
      rw [show (decide ((i : Int) < (t.length : Int))) = true by simp; omega]
      have e : w64 ((i : Int) + 1) = ((i + 1 : Nat) : Int) := by rw [w64_id] <;> omega
      have hc : decide ((acc.length + [a].length) * 40 ≤ 140737488355328) = true := by simp; omega
      simp only [cond_true, getI_at h1, Option.bind_some, e, hc, chk]
      rw [ih (i + 1) _ (by rw [h2]; rw [hd] at h; simpa using h) (by omega) (by simp [ha]), h2]
      simp
theorem table_eq {N : Nat} {t : List GRow} (hl : t.length ≤ 1000) (hN : 1001 ≤ N) : law01_TableX N t = some t := by
  have := copy_loop N t (fun y => some y) hl N 0 [] (by simp; omega) (Nat.zero_le _) rfl
  rw [show ((0 : Nat) : Int) = 0 from rfl] at this
  unfold law01_TableX joinK
  dsimp only
  rw [this]
  simp

theorem stream_eq (N : Nat) (s : GStream) : law01_StreamX N s = some s := rfl
theorem check_eq (N : Nat) (s : GStream) : steam_CheckStreamX N s = (ref01_RightStreamX N s).bind fun b => some (bif b then 0 else 1) := by
  unfold steam_CheckStreamX steam_Stream_validX ref01_RightStreamX
  simp only [in_eq, within_eq, Option.bind_some]
  cases btw s.Mass 0 1000000 <;> cases btw s.Heat 0 (w64 (4000 * s.Mass)) <;> cases btw s.Silica 0 (w64 (10000 * s.Mass)) <;> cases btw s.Gas 0 1000000000 <;> rfl
theorem rightStream_eq (N : Nat) (s : GStream) : ∃ b, ref01_RightStreamX N s = some b := by
  unfold ref01_RightStreamX
  simp only [in_eq, Option.bind_some]
  cases btw s.Mass 0 1000000 <;> cases btw s.Heat 0 (w64 (4000 * s.Mass)) <;> cases btw s.Silica 0 (w64 (10000 * s.Mass)) <;> cases btw s.Gas 0 1000000000 <;> exact ⟨_, rfl⟩

def code : Option Nat → Int
  | none => -1
  | some m => m
theorem at_loop (N : Nat) (t : List GRow) (p : Int) (k : Int → Option Int) (hl : t.length ≤ 1000) : ∀ (n i : Nat), (t.drop i).length < n → i ≤ t.length →
    ref01_AtX_loop1 N t p k n (code (lastAt p t i)) i = k (code (lastAt p t t.length)) := by
  intro n
  induction n with
  | zero => intro i h; omega
  | succ n ih =>
    intro i h hi
    unfold ref01_AtX_loop1
    cases hd : t.drop i with
    | nil =>
      have := drop_nil hd
      obtain rfl : i = t.length := by omega
      simp
    | cons a l =>
      obtain ⟨h1, h2, h3⟩ := drop_cons hd
      rw [show (decide ((i : Int) < (t.length : Int))) = true by simp; omega]
      have e : w64 ((i : Int) + 1) = ((i + 1 : Nat) : Int) := by rw [w64_id] <;> omega
      have := ih (i + 1) (by rw [h2]; rw [hd] at h; simpa using h) (by omega)
      simp only [cond_true, getI_at h1, Option.bind_some, e]
      rw [lastAt, h1] at this
      by_cases hp : a.P ≤ p
      · simpa [hp, code] using this
      · simpa [hp] using this
theorem refAt_eq {N : Nat} {t : List GRow} {p : Int} (hl : t.length ≤ 1000) (hN : 1001 ≤ N) : ref01_AtX N t p = some (code (lastAt p t t.length)) := by
  have := at_loop N t p (fun y => some y) hl N 0 (by simp; omega) (Nat.zero_le _)
  rw [show ((0 : Nat) : Int) = 0 from rfl] at this
  unfold ref01_AtX joinK
  exact this

/-! the greatest common divisor -/
theorem gcd_same (N : Nat) (k : Int → Option Int) : ∀ (n : Nat) (a b : Int), ref01_GcdX_loop1 N k n a b = steam_gcdX_loop1 N k n a b
  | 0, _, _ => rfl
  | n + 1, a, b => by
    unfold ref01_GcdX_loop1 steam_gcdX_loop1
    rw [gcd_same N k n]
theorem gcd_loop (N : Nat) : ∀ (n : Nat) (a b : Int), b.toNat < n → 0 ≤ a → 0 ≤ b → 0 < a + b → ∃ g, 0 < g ∧ steam_gcdX_loop1 N (fun y => some y) n a b = some g
  | 0, _, _, h, _, _, _ => absurd h (Nat.not_lt_zero _)
  | n + 1, a, b, h, ha, hb, hs => by
    unfold steam_gcdX_loop1
    by_cases h0 : b > 0
    · have h1 : 0 ≤ a.tmod b := Int.tmod_nonneg _ ha
      have h2 : a.tmod b < b := Int.tmod_lt_of_pos _ h0
      obtain ⟨g, hg, e⟩ := gcd_loop N n b (a.tmod b) (by omega) hb h1 (by omega)
      refine ⟨g, hg, ?_⟩
      rw [decide_eq_true h0]
      have : (b != 0) = true := by simp; omega
      simp only [cond_true, chk, this, e]
    · refine ⟨a, by omega, ?_⟩
      rw [decide_eq_false h0]
      rfl
theorem gcd_mul {N : Nat} (hN : 1001 ≤ N) {m d : Int} (hd : 0 < d) : steam_gcdX N (m * d) d = some d := by
  obtain ⟨n, rfl⟩ : ∃ n, N = n + 2 := ⟨N - 2, by omega⟩
  unfold steam_gcdX joinK
  dsimp only
  have h1 : (d != 0) = true := by simp; omega
  unfold steam_gcdX_loop1
  rw [decide_eq_true (show d > 0 from hd)]
  simp only [cond_true, chk, h1, Int.mul_tmod_left]
  unfold steam_gcdX_loop1
  simp


theorem bd2 {x y : Int} (hx : 0 ≤ x) (hx' : x ≤ 10000) (hy : 0 ≤ y) (hy' : y ≤ 400) : 0 ≤ x * y ∧ x * y ≤ 4000000 :=
  ⟨Int.mul_nonneg hx hy, by have := Int.mul_le_mul hx' hy' hy (by omega); omega⟩

structure RowP (r : GRow) : Prop where
  t0 : 0 ≤ r.T
  t1 : r.T ≤ 400
  p0 : 1 ≤ r.P
  p1 : r.P ≤ 10000
theorem rowP_of {r : GRow} (h : rowB r = true) : RowP r := by
  simp [rowB, btw] at h
  exact ⟨by omega, by omega, by omega, by omega⟩
theorem steps_at : ∀ {t : List GRow} {i : Nat} {a b : GRow}, stepsB t = true → t[i]? = some a → t[i + 1]? = some b → a.T < b.T ∧ a.P < b.P
  | [], _, _, _, _, h, _ => by simp at h
  | [_], i, _, _, _, _, h => by simp at h
  | x :: y :: l, 0, a, b, hs, ha, hb => by
    simp at ha hb; subst ha hb
    simp [stepsB, stepB] at hs
    omega
  | x :: y :: l, i + 1, a, b, hs, ha, hb => by
    simp [stepsB] at hs
    exact steps_at hs.2 (by simpa using ha) (by simpa using hb)
theorem tab_row {t : List GRow} (h : tabB t = true) {i : Nat} {a : GRow} (ha : t[i]? = some a) : RowP a := by
  simp only [tabB, Bool.and_eq_true] at h
  exact rowP_of (List.all_eq_true.1 h.1.2 a (List.mem_of_getElem? ha))
theorem tab_step {t : List GRow} (h : tabB t = true) {i : Nat} {a b : GRow} (ha : t[i]? = some a) (hb : t[i + 1]? = some b) : a.T < b.T ∧ a.P < b.P := by
  simp only [tabB, Bool.and_eq_true] at h
  exact steps_at h.2 ha hb
theorem tab_len {t : List GRow} (h : tabB t = true) : 2 ≤ t.length ∧ t.length ≤ 20 := by
  simp only [tabB, Bool.and_eq_true, btw, decide_eq_true_eq] at h
  omega

/-- The first row behind the first whose temperature is at least p. -/
theorem first_loop (N : Nat) (t : List GRow) (p : Int) (k : Unit → Option Int) (hl : t.length ≤ 1000) {j : Nat} {b : GRow} (hj : t[j]? = some b) (hb : p ≤ b.T) (hno : ∀ i x, i < j → t[i]? = some x → x.T < p) : ∀ (n i : Nat), j - i < n → i ≤ j →
    slices_IndexFunc_steam_Table_steam_RowX_1_loop1 N t p k n i = some (j : Int) := by
  have hjl := (List.getElem?_eq_some_iff.1 hj).1
  intro n
  induction n with
  | zero => intro i h; omega
  | succ n ih =>
    intro i h hi
    unfold slices_IndexFunc_steam_Table_steam_RowX_1_loop1
    rw [show (decide ((i : Int) < (t.length : Int))) = true by simp; omega]
    by_cases e : i = j
    · subst e
      simp [getI_at hj, steam_Saturation_1X_1, hb]
    · have hx : t[i]? = some t[i] := List.getElem?_eq_getElem (by omega)
      have := hno i _ (by omega) hx
      have e1 : w64 ((i : Int) + 1) = ((i + 1 : Nat) : Int) := by rw [w64_id] <;> omega
      simp only [cond_true, getI_at hx, Option.bind_some, steam_Saturation_1X_1, decide_eq_false (Int.not_le.2 this), cond_false, e1]
      exact ih (i + 1) (by omega) (by omega)
/-- The reference's look for the very temperature. -/
theorem same_loop (N : Nat) (t : List GRow) (p : Int) (k : Unit → Option GRatio) (hl : t.length ≤ 1000) {j : Nat} {b : GRow} (hj : t[j]? = some b) (hb : b.T = p) (hno : ∀ i x, i < j → t[i]? = some x → x.T ≠ p) : ∀ (n i : Nat), j - i < n → i ≤ j →
    ref01_SaturationX_loop2 N t k p n i = some (⟨b.P, 1⟩ : GRatio) := by
  have hjl := (List.getElem?_eq_some_iff.1 hj).1
  intro n
  induction n with
  | zero => intro i h; omega
  | succ n ih =>
    intro i h hi
    unfold ref01_SaturationX_loop2
    rw [show (decide ((i : Int) < (t.length : Int))) = true by simp; omega]
    by_cases e : i = j
    · subst e
      simp [getI_at hj, hb]
    · have hx : t[i]? = some t[i] := List.getElem?_eq_getElem (by omega)
      have := hno i _ (by omega) hx
      have e1 : w64 ((i : Int) + 1) = ((i + 1 : Nat) : Int) := by rw [w64_id] <;> omega
      have e2 : (t[i].T == p) = false := by simpa using this
      simp only [cond_true, getI_at hx, Option.bind_some, e2, cond_false, e1]
      exact ih (i + 1) (by omega) (by omega)
theorem none_loop (N : Nat) (t : List GRow) (p : Int) (k : Unit → Option GRatio) (hl : t.length ≤ 1000) (hno : ∀ (i : Nat) x, t[i]? = some x → x.T ≠ p) : ∀ (n i : Nat), t.length - i < n → i ≤ t.length →
    ref01_SaturationX_loop2 N t k p n i = k () := by
  intro n
  induction n with
  | zero => intro i h; omega
  | succ n ih =>
    intro i h hi
    unfold ref01_SaturationX_loop2
    by_cases hlt : i < t.length
    · rw [show (decide ((i : Int) < (t.length : Int))) = true by simp; omega]
      have hx : t[i]? = some t[i] := List.getElem?_eq_getElem hlt
      have := hno i _ hx
      have e1 : w64 ((i : Int) + 1) = ((i + 1 : Nat) : Int) := by rw [w64_id] <;> omega
      have e2 : (t[i].T == p) = false := by simpa using this
      simp only [cond_true, getI_at hx, Option.bind_some, e2, cond_false, e1]
      exact ih (i + 1) (by omega) (by omega)
    · rw [show (decide ((i : Int) < (t.length : Int))) = false by simp; omega]
      rfl
theorem up_loop (N : Nat) (t : List GRow) (p : Int) (k : Int → Option GRatio) (hl : t.length ≤ 1000) {j : Nat} {b : GRow} (hj : t[j + 1]? = some b) (hb : p ≤ b.T) (hno : ∀ i x, i < j → t[i + 1]? = some x → x.T < p) : ∀ (n i : Nat), j - i < n → i ≤ j →
    ref01_SaturationX_loop1 N t p k n i = k (j : Int) := by
  have hjl := (List.getElem?_eq_some_iff.1 hj).1
  intro n
  induction n with
  | zero => intro i h; omega
  | succ n ih =>
    intro i h hi
    unfold ref01_SaturationX_loop1
    have e1 : w64 ((i : Int) + 1) = ((i + 1 : Nat) : Int) := by rw [w64_id] <;> omega
    by_cases e : i = j
    · subst e
      simp only [e1, getI_at hj, Option.bind_some, decide_eq_false (Int.not_lt.2 hb), cond_false]
    · have hx : t[i + 1]? = some t[i + 1] := List.getElem?_eq_getElem (by omega)
      have := hno i _ (by omega) hx
      simp only [e1, getI_at hx, Option.bind_some, decide_eq_true this, cond_true]
      exact ih (i + 1) (by omega) (by omega)

/-- Where a temperature of the table lies. -/
theorem place {p : Int} : ∀ (t : List GRow) (x y : GRow), t[0]? = some x → t[t.length - 1]? = some y → 2 ≤ t.length → x.T ≤ p → p ≤ y.T → ∃ j a b, t[j]? = some a ∧ t[j + 1]? = some b ∧ p ≤ b.T ∧ (∀ i z, i < j → t[i + 1]? = some z → z.T < p) ∧ (j = 0 ∨ a.T < p) ∧ a.T ≤ p
  | [], _, _, h, _, _, _, _ => by simp at h
  | [_], _, _, _, _, h, _, _ => by simp at h
  | x :: y :: l, a0, y0, h0, h1, h2, h3, h4 => by
    simp at h0; subst h0
    by_cases hy : p ≤ y.T
    · exact ⟨0, x, y, rfl, rfl, hy, fun i z h => absurd h (Nat.not_lt_zero _), .inl rfl, h3⟩
    · have hl : 2 ≤ (y :: l).length := by
        cases l with
        | nil => simp at h1; subst h1; exact absurd h4 hy
        | cons => simp
      obtain ⟨j, a, b, q1, q2, q3, q4, q5, q6⟩ := place (y :: l) y y0 rfl (by simpa using h1) hl (by omega) h4
      refine ⟨j + 1, a, b, by simpa using q1, by simpa using q2, q3, fun i z hi hz => ?_, ?_, q6⟩
      · cases i with
        | zero => simp at hz; subst hz; omega
        | succ i => exact q4 i z (by omega) (by simpa using hz)
      · rcases q5 with e | e
        · subst e; simp at q1; subst q1; right; omega
        · exact .inr e

theorem tab_lt {t : List GRow} (h : tabB t = true) {i : Nat} {a : GRow} (ha : t[i]? = some a) : ∀ (d : Nat) (b : GRow), t[i + d + 1]? = some b → a.T < b.T
  | 0, b, hb => (tab_step h ha hb).1
  | d + 1, b, hb => by
    have hl := (List.getElem?_eq_some_iff.1 hb).1
    have hc : t[i + d + 1]? = some t[i + d + 1] := List.getElem?_eq_getElem (by omega)
    have h1 := tab_lt h ha d _ hc
    have h2 := (tab_step h hc (by rw [show i + d + 1 + 1 = i + (d + 1) + 1 by omega]; exact hb)).1
    omega
theorem tab_lt' {t : List GRow} (h : tabB t = true) {i k : Nat} {a b : GRow} (ha : t[i]? = some a) (hb : t[k]? = some b) (hik : i < k) : a.T < b.T :=
  tab_lt h ha (k - i - 1) b (by rw [show i + (k - i - 1) + 1 = k by omega]; exact hb)

theorem sat_bad {N : Nat} {t : List GRow} {p : Int} (hl : t.length ≤ 1000) (hN : 1001 ≤ N) (h : tabB t = false) : steam_SaturationX N t p = some (⟨0, 0⟩, 1) := by
  unfold steam_SaturationX
  rw [valid_eq hl hN, h]
  rfl
theorem getI_last {t : List GRow} (hl : t.length ≤ 1000) (h2 : 2 ≤ t.length) {y : GRow} (hy : t[t.length - 1]? = some y) : getI t (w64 ((t.length : Int) - 1)) = some y := by
  rw [show w64 ((t.length : Int) - 1) = ((t.length - 1 : Nat) : Int) by rw [w64_id] <;> omega]
  exact getI_at hy
theorem sat_out {N : Nat} {t : List GRow} {p : Int} (hN : 1001 ≤ N) (h : tabB t = true) {x y : GRow} (hx : t[0]? = some x) (hy : t[t.length - 1]? = some y) (hp : btw p x.T y.T = false) : steam_SaturationX N t p = some (⟨0, 0⟩, 2) := by
  have hl := tab_len h
  have e0 : getI t 0 = some x := getI_at (i := 0) hx
  unfold steam_SaturationX
  rw [valid_eq (by omega) hN, h, e0, getI_last (by omega) hl.1 hy]
  simp only [Option.bind_some, within_eq, hp]
  rfl

/-- What both reckon between two rows. -/
theorem reckon {a b : GRow} {p : Int} (ha : RowP a) (hb : RowP b) (h1 : a.T ≤ p) (h2 : p ≤ b.T) (h3 : a.T < b.T) (h4 : a.P < b.P) :
    w64 ((w64 (a.P * (w64 (b.T - p)))) + (w64 (b.P * (w64 (p - a.T))))) = a.P * (b.T - p) + b.P * (p - a.T) ∧
    w64 ((w64 (a.P * (w64 (b.T - a.T)))) + (w64 ((w64 (b.P - a.P)) * (w64 (p - a.T))))) = a.P * (b.T - p) + b.P * (p - a.T) ∧
    w64 (b.T - a.T) = b.T - a.T ∧ 0 ≤ a.P * (b.T - p) + b.P * (p - a.T) ∧ a.P * (b.T - p) + b.P * (p - a.T) ≤ 8000000 := by
  obtain ⟨a1, a2, a3, a4⟩ := ha
  obtain ⟨b1, b2, b3, b4⟩ := hb
  have q1 := bd2 (x := a.P) (y := b.T - p) (by omega) a4 (by omega) (by omega)
  have q2 := bd2 (x := b.P) (y := p - a.T) (by omega) b4 (by omega) (by omega)
  have q3 := bd2 (x := a.P) (y := b.T - a.T) (by omega) a4 (by omega) (by omega)
  have q4 := bd2 (x := b.P - a.P) (y := p - a.T) (by omega) (by omega) (by omega) (by omega)
  have e : a.P * (b.T - a.T) + (b.P - a.P) * (p - a.T) = a.P * (b.T - p) + b.P * (p - a.T) := by
    simp only [Int.mul_sub, Int.sub_mul]
    omega
  refine ⟨?_, ?_, by rw [w64_id] <;> omega, by omega, by omega⟩
  · rw [w64_id (x := b.T - p) (by omega) (by omega), w64_id (x := p - a.T) (by omega) (by omega), w64_id (x := a.P * (b.T - p)) (by omega) (by omega), w64_id (x := b.P * (p - a.T)) (by omega) (by omega), w64_id (by omega) (by omega)]
  · rw [w64_id (x := b.T - a.T) (by omega) (by omega), w64_id (x := p - a.T) (by omega) (by omega), w64_id (x := b.P - a.P) (by omega) (by omega), w64_id (x := a.P * (b.T - a.T)) (by omega) (by omega), w64_id (x := (b.P - a.P) * (p - a.T)) (by omega) (by omega), w64_id (by omega) (by omega), e]

theorem refGcd_eq {N : Nat} {n d : Int} (h0 : 0 ≤ n) (h1 : n ≤ 8000000) (hd : 0 < d) (hd' : d ≤ 400) : ref01_GcdX N n d = steam_gcdX N n d := by
  unfold ref01_GcdX steam_gcdX joinK
  have e1 : w64 (0 - n) = 0 - n := w64_id (by omega) (by omega)
  have e2 : w64 (0 - d) = 0 - d := w64_id (by omega) (by omega)
  rw [e1, e2, if_neg (by omega), if_neg (by omega)]
  simp only [Option.bind_some]
  exact gcd_same N _ N n d

theorem sat_eq {N : Nat} {t : List GRow} {p : Int} (hN : 1001 ≤ N) (h : tabB t = true) {x y : GRow} (hx : t[0]? = some x) (hy : t[t.length - 1]? = some y) (hp : btw p x.T y.T = true) :
    ∃ r : GRatio, steam_SaturationX N t p = some (r, 0) ∧ ref01_SaturationX N t p = some r := by
  have hl := tab_len h
  have e0 : getI t 0 = some x := getI_at (i := 0) hx
  have hp' := hp
  simp only [btw, Bool.and_eq_true, decide_eq_true_eq] at hp'
  obtain ⟨j, a, b, hja, hjb, q3, q4, q5, q6⟩ := place t x y hx hy hl.1 hp'.1 hp'.2
  have hjl := (List.getElem?_eq_some_iff.1 hjb).1
  have hab := tab_step h hja hjb
  have pa := tab_row h hja
  have pb := tab_row h hjb
  obtain ⟨r1, r2, r3, r4, r5⟩ := reckon pa pb q6 q3 hab.1 hab.2
  have hd : 0 < b.T - a.T := by omega
  have hd' : b.T - a.T ≤ 400 := by have := pa.t0; have := pb.t1; omega
  have ej : w64 ((j : Int) + 1) = ((j + 1 : Nat) : Int) := by rw [w64_id] <;> omega
  have hix : slices_IndexFunc_steam_Table_steam_RowX_1 N (t.drop (1 : Int).toNat) p = some (j : Int) := by
    have := first_loop N (t.drop 1) p (fun _ => some (-1)) (by simp; omega) (j := j) (b := b) (by rw [List.getElem?_drop, Nat.add_comm]; exact hjb) q3 (fun i z hi hz => q4 i z hi (by rw [List.getElem?_drop, Nat.add_comm] at hz; exact hz)) N 0 (by omega) (Nat.zero_le _)
    unfold slices_IndexFunc_steam_Table_steam_RowX_1 joinK
    exact this
  have ec : (decide ((1 : Int) ≤ (t.length : Int))) = true := by rw [decide_eq_true_eq]; omega
  -- the program
  have prog : ∀ g, 0 < g → steam_gcdX N (a.P * (b.T - p) + b.P * (p - a.T)) (b.T - a.T) = some g → steam_SaturationX N t p = some (⟨w64 ((a.P * (b.T - p) + b.P * (p - a.T)).tdiv g), w64 ((b.T - a.T).tdiv g)⟩, 0) := by
    intro g hg he
    have hg' : (g != 0) = true := by simp; omega
    unfold steam_SaturationX
    rw [valid_eq (by omega) hN, h, e0, getI_last (by omega) hl.1 hy]
    simp only [Option.bind_some, within_eq, hp, Bool.not_true, cond_false, hix, getI_at hja, ej, getI_at hjb, r1, r3, he, hg', ec]
    simp [chk]
  have hlow : ∀ i z, i ≤ j → t[i]? = some z → z.T ≤ a.T := fun i z hi hz => by
    rcases Nat.lt_or_ge i j with h' | h'
    · have := tab_lt' h hz hja h'; omega
    · obtain rfl : i = j := by omega
      rw [hja] at hz; cases hz; exact Int.le_refl _
  by_cases c1 : b.T = p
  · have en : a.P * (b.T - p) + b.P * (p - a.T) = b.P * (b.T - a.T) := by rw [c1]; simp
    refine ⟨⟨b.P, 1⟩, ?_, ?_⟩
    · rw [prog (b.T - a.T) hd (by rw [en]; exact gcd_mul hN hd), en, Int.mul_tdiv_cancel _ (by omega), Int.tdiv_self (by omega), w64_id (by have := pb.p0; omega) (by have := pb.p1; omega), w64_id (by omega) (by omega)]
    · have := same_loop N t p (fun _ => joinK (fun y2 =>
          (getI t y2).bind fun x4 =>
          (getI t (w64 (y2 + 1))).bind fun x8 =>
          (some (w64 ((w64 (x4.P * (w64 (x8.T - x4.T)))) + (w64 ((w64 (x8.P - x4.P)) * (w64 (p - x4.T))))))).bind fun x12 =>
          (ref01_GcdX N x12 (w64 (x8.T - x4.T))).bind fun x15 =>
          chk (x15 != 0) <|
          chk (x15 != 0) <|
          some (⟨w64 (x12.tdiv x15), w64 ((w64 (x8.T - x4.T)).tdiv x15)⟩ : GRatio)) fun k3 : Int → Option GRatio =>
      ref01_SaturationX_loop1 N t p k3 N 0) (by omega) hjb c1 (fun i z hi hz e => by have := hlow i z (by omega) hz; omega) N 0 (by omega) (Nat.zero_le _)
      unfold ref01_SaturationX
      exact this
  · by_cases c2 : a.T = p
    · have en : a.P * (b.T - p) + b.P * (p - a.T) = a.P * (b.T - a.T) := by rw [c2]; simp
      refine ⟨⟨a.P, 1⟩, ?_, ?_⟩
      · rw [prog (b.T - a.T) hd (by rw [en]; exact gcd_mul hN hd), en, Int.mul_tdiv_cancel _ (by omega), Int.tdiv_self (by omega), w64_id (by have := pa.p0; omega) (by have := pa.p1; omega), w64_id (by omega) (by omega)]
      · unfold ref01_SaturationX
        exact same_loop N t p _ (by omega) hja c2 (fun i z hi hz e => by have := tab_lt' h hz hja hi; omega) N 0 (by omega) (Nat.zero_le _)
    · obtain ⟨g, hg, he⟩ := gcd_loop N N (a.P * (b.T - p) + b.P * (p - a.T)) (b.T - a.T) (by omega) r4 (by omega) (by omega)
      have hg' : (g != 0) = true := by simp; omega
      have he' : steam_gcdX N (a.P * (b.T - p) + b.P * (p - a.T)) (b.T - a.T) = some g := he
      refine ⟨_, prog g hg he', ?_⟩
      unfold ref01_SaturationX
      refine (none_loop N t p _ (by omega) (fun i z hz e => ?_) N 0 (by omega) (Nat.zero_le _)).trans ?_
      · rcases Nat.lt_or_ge j i with h' | h'
        · rcases Nat.lt_or_ge (j + 1) i with h2 | h2
          · have := tab_lt' h hjb hz h2; omega
          · obtain rfl : i = j + 1 := by omega
            rw [hjb] at hz; cases hz; exact c1 e
        · have := hlow i z h' hz; omega
      · refine (up_loop N t p _ (by omega) hjb q3 q4 N 0 (by omega) (Nat.zero_le _)).trans ?_
        rw [r3] at r2
        simp only [getI_at hja, ej, getI_at hjb, Option.bind_some, r2, r3, refGcd_eq r4 r5 hd hd', he', hg', chk, cond_true]

end Go.Proofs.Ytenpbiineblcjaa
