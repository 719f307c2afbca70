/-
  Plain laws on whether a table and a stream are valid, and on their copies. No conditions.
-/
import Derived.Test.YtenpbiineblcjaaX2
namespace Go.Proofs.Ytenpbiineblcjaa
open Go.RowKit

theorem w64_id {x : Int} (h : -9223372036854775808 ≤ x) (h' : x ≤ 9223372036854775807) : w64 x = x := by
  unfold w64
  rw [IntKind.wrap_i64]
  omega
theorem getI_at {α : Type} {l : List α} {i : Nat} {x : α} (h : l[i]? = some x) : getI l (i : Int) = some x := by
  simp [getI, h]

def btw (a lo hi : Int) : Bool := decide (lo ≤ a) && decide (a ≤ hi)
def rowB (r : GRow) : Bool := btw r.T 0 400 && btw r.P 1 10000 && btw r.Liquid 0 4000 && btw r.Silica 0 2000 && decide (r.Liquid < r.Vapour) && decide (r.Vapour ≤ 4000)
def stepB (o r : GRow) : Bool := decide (o.T < r.T) && decide (o.P < r.P) && decide (o.Liquid < r.Liquid) && decide (o.Silica ≤ r.Silica)
def stepsB : List GRow → Bool
  | a :: b :: l => stepB a b && stepsB (b :: l)
  | _ => true
def tabB (t : List GRow) : Bool := btw t.length 2 20 && t.all rowB && stepsB t

theorem in_eq (N : Nat) (a lo hi : Int) : ref01_InX N a lo hi = some (btw a lo hi) := by
  unfold ref01_InX btw
  by_cases h : lo ≤ a <;> simp [h]
theorem within_eq (N : Nat) (a lo hi : Int) : steam_withinX N a lo hi = some (btw a lo hi) := by
  unfold steam_withinX btw
  by_cases h : lo ≤ a <;> simp [h]
theorem alone_eq (N : Nat) (r : GRow) : steam_Row_aloneX N r = some (rowB r) := by
  unfold steam_Row_aloneX rowB
  simp only [within_eq, Option.bind_some]
  cases btw r.T 0 400 <;> cases btw r.P 1 10000 <;> cases btw r.Liquid 0 4000 <;> cases btw r.Silica 0 2000 <;> by_cases h : r.Liquid < r.Vapour <;> simp [h]

theorem drop_cons {α : Type} {t : List α} {i : Nat} {a : α} {l : List α} (h : t.drop i = a :: l) : t[i]? = some a ∧ t.drop (i + 1) = l ∧ i < t.length := by
  have hlt : i < t.length := by
    rcases Nat.lt_or_ge i t.length with h' | h'
    · exact h'
    · rw [List.drop_eq_nil_of_le h'] at h; cases h
  rw [List.drop_eq_getElem_cons hlt] at h
  injection h with h1 h2
  exact ⟨by rw [List.getElem?_eq_getElem hlt, h1], h2, hlt⟩
theorem drop_nil {α : Type} {t : List α} {i : Nat} (h : t.drop i = []) : t.length ≤ i := List.drop_eq_nil_iff.1 h

theorem badRow_loop (N : Nat) (t : List GRow) (k : Unit → Option Int) (hl : t.length ≤ 1000) : ∀ (n i : Nat), (t.drop i).length < n → i ≤ t.length →
    slices_IndexFunc_steam_Row_steam_RowX_1_loop1 N t k n i = bif (t.drop i).all rowB then k () else some ((i : Int) + ((t.drop i).findIdx fun r => !rowB r : Nat)) := by
  intro n
  induction n with
  | zero => intro i h; omega
  | succ n ih =>
    intro i h hi
    unfold slices_IndexFunc_steam_Row_steam_RowX_1_loop1
    cases hd : t.drop i with
    | nil =>
      have := drop_nil hd
      rw [show (decide ((i : Int) < (t.length : Int))) = false by simp; omega]
      rfl
    | cons a l =>
      obtain ⟨h1, h2, h3⟩ := drop_cons hd
      rw [show (decide ((i : Int) < (t.length : Int))) = true by simp; omega]
      simp only [cond_true, getI_at h1, Option.bind_some, steam_all_steam_Row_1X_1, alone_eq]
      cases hr : rowB a with
      | false => simp [hr, List.findIdx_cons]
      | true =>
        have e : w64 ((i : Int) + 1) = ((i + 1 : Nat) : Int) := by rw [w64_id] <;> omega
        rw [e]
        have := ih (i + 1) (by rw [h2]; rw [hd] at h; simpa using h) (by omega)
        simp only [Bool.not_true, cond_false, this, h2, List.all_cons, hr, Bool.true_and, List.findIdx_cons]
        congr 2
        push_cast
        omega
theorem allRow_eq {N : Nat} {t : List GRow} (hl : t.length ≤ 1000) (hN : 1001 ≤ N) : steam_all_steam_RowX_1 N t = some (t.all rowB) := by
  have := badRow_loop N t (fun _ => some (-1)) hl N 0 (by simp; omega) (Nat.zero_le _)
  rw [show ((0 : Nat) : Int) = 0 from rfl, List.drop_zero] at this
  unfold steam_all_steam_RowX_1 slices_ContainsFunc_steam_Row_steam_RowX_1 slices_IndexFunc_steam_Row_steam_RowX_1 joinK
  dsimp only
  rw [this]
  cases h : t.all rowB with
  | true => simp
  | false => simp

theorem steps_loop (N : Nat) (t : List GRow) (k : Unit → Option Bool) (hl : t.length ≤ 1000) : ∀ (n i : Nat), (t.drop i).length < n → i < t.length →
    steam_Table_validX_loop1 N t k n i = bif stepsB (t.drop i) then k () else some false := by
  intro n
  induction n with
  | zero => intro i h; omega
  | succ n ih =>
    intro i h hi
    unfold steam_Table_validX_loop1
    have hdr : ∀ x, (t.drop (1 : Int).toNat)[i]? = some x ↔ t[i + 1]? = some x := fun x => by
      rw [show (1 : Int).toNat = 1 from rfl, List.getElem?_drop, Nat.add_comm]
    have hlen : (t.drop (1 : Int).toNat).length = t.length - 1 := by simp
    cases hd : t.drop i with
    | nil => have := drop_nil hd; omega
    | cons a l =>
      obtain ⟨h1, h2, h3⟩ := drop_cons hd
      cases l with
      | nil =>
        have := drop_nil h2
        rw [show (decide ((i : Int) < ((t.drop (1 : Int).toNat).length : Int))) = false by rw [hlen]; simp; omega]
        rfl
      | cons b l =>
        obtain ⟨h4, h5, h6⟩ := drop_cons h2
        rw [show (decide ((i : Int) < ((t.drop (1 : Int).toNat).length : Int))) = true by rw [hlen]; simp; omega]
        have e : w64 ((i : Int) + 1) = ((i + 1 : Nat) : Int) := by rw [w64_id] <;> omega
        simp only [cond_true, getI_at ((hdr b).2 h4), getI_at h1, Option.bind_some, e]
        have := ih (i + 1) (by rw [h2]; rw [hd] at h; simpa using h) (by omega)
        simp only [this, h2, stepsB, stepB]
        by_cases c1 : b.T ≤ a.T
        · simp [c1, Int.not_lt.2 c1]
        · by_cases c2 : b.P ≤ a.P
          · simp [c1, c2, Int.not_lt.2 c2]
          · by_cases c3 : b.Liquid ≤ a.Liquid
            · simp [c1, c2, c3, Int.not_lt.2 c3]
            · by_cases c4 : b.Silica < a.Silica
              · simp [c1, c2, c3, c4, Int.not_le.2 c4]
              · simp [c1, c2, c3, c4, Int.not_le.1 c1, Int.not_le.1 c2, Int.not_le.1 c3, Int.not_lt.1 c4]

theorem valid_eq {N : Nat} {t : List GRow} (hl : t.length ≤ 1000) (hN : 1001 ≤ N) : steam_Table_validX N t = some (tabB t) := by
  unfold steam_Table_validX tabB
  rw [within_eq, allRow_eq hl hN]
  cases hb : btw t.length 2 20 with
  | false => rfl
  | true =>
    have h2 : 2 ≤ t.length := by simp [btw] at hb; omega
    cases ha : t.all rowB with
    | false => rfl
    | true =>
      have := steps_loop N t (fun _ => some true) hl N 0 (by simp; omega) (by omega)
      rw [show ((0 : Nat) : Int) = 0 from rfl, List.drop_zero] at this
      simp only [Option.bind_some, Bool.not_true, cond_false, joinK, Bool.true_and]
      rw [this]
      rw [show (decide ((1 : Int) ≤ (t.length : Int))) = true by rw [decide_eq_true_eq]; omega]
      cases stepsB t <;> simp [chk]

/-- The reference's look at rows. -/
def lookB : Option GRow → List GRow → Bool
  | _, [] => true
  | o, a :: l => rowB a && (match o with | none => true | some p => stepB p a) && lookB (some a) l
theorem lookB_some : ∀ (a : GRow) (l : List GRow), lookB (some a) l = (l.all rowB && stepsB (a :: l))
  | _, [] => rfl
  | a, b :: l => by
    rw [lookB, lookB_some b l, List.all_cons, stepsB]
    cases rowB b <;> cases l.all rowB <;> cases stepB a b <;> simp
theorem lookB_none : ∀ (t : List GRow), lookB none t = (t.all rowB && stepsB t)
  | [] => rfl
  | a :: l => by
    rw [lookB, lookB_some a l, List.all_cons]
    cases rowB a <;> simp

theorem right_loop (N : Nat) (t : List GRow) (k : Unit → Option Bool) (hl : t.length ≤ 9223372036854775807) : ∀ (n i : Nat), (t.drop i).length < n → i ≤ t.length →
    ref01_RightX_loop1 N t k n i = bif lookB (if i = 0 then none else t[i - 1]?) (t.drop i) then k () else some false := by
  intro n
  induction n with
  | zero => intro i h; omega
  | succ n ih =>
    intro i h hi
    unfold ref01_RightX_loop1
    cases hd : t.drop i with
    | nil =>
      have := drop_nil hd
      rw [show (decide ((i : Int) < (t.length : Int))) = false by simp; omega]
      rfl
    | cons a l =>
      obtain ⟨h1, h2, h3⟩ := drop_cons hd
      rw [show (decide ((i : Int) < (t.length : Int))) = true by simp; omega]
      have e : w64 ((i : Int) + 1) = ((i + 1 : Nat) : Int) := by rw [w64_id] <;> omega
      have := ih (i + 1) (by rw [h2]; rw [hd] at h; simpa using h) (by omega)
      simp only [Nat.add_sub_cancel, Nat.succ_ne_zero, if_false, h1, h2] at this
      simp only [cond_true, getI_at h1, Option.bind_some, e, in_eq, this, lookB, rowB, joinK]
      cases btw a.T 0 400
      · rfl
      cases btw a.P 1 10000
      · rfl
      cases btw a.Liquid 0 4000
      · rfl
      cases btw a.Silica 0 2000
      · rfl
      by_cases c1 : a.Vapour ≤ a.Liquid
      · simp [c1, Int.not_lt.2 c1]
      by_cases c2 : a.Vapour > 4000
      · simp [c1, c2, Int.not_le.2 c2]
      cases i with
      | zero => simp [c1, c2, Int.not_le.1 c1, Int.not_lt.1 c2]
      | succ i =>
        have hp : t[i]? = some t[i] := List.getElem?_eq_getElem (by omega)
        have e2 : w64 (((i + 1 : Nat) : Int) - 1) = (i : Int) := by rw [w64_id] <;> omega
        have e3 : (decide (((i + 1 : Nat) : Int) > 0)) = true := by rw [decide_eq_true_eq]; omega
        generalize t[i] = b at hp
        simp only [Bool.not_true, cond_false, e3, cond_true, e2, getI_at hp, Option.bind_some, Nat.add_sub_cancel, hp, stepB, show ¬ (i + 1 = 0) by omega, if_false, decide_eq_false c1, decide_eq_false c2, decide_eq_true (Int.not_le.1 c1), decide_eq_true (Int.not_lt.1 c2), Bool.true_and]
        by_cases d1 : a.T ≤ b.T
        · simp [d1, Int.not_lt.2 d1]
        · by_cases d2 : a.P ≤ b.P
          · simp [d1, d2, Int.not_lt.2 d2]
          · by_cases d3 : a.Liquid ≤ b.Liquid
            · simp [d1, d2, d3, Int.not_lt.2 d3]
            · by_cases d4 : a.Silica < b.Silica
              · simp [d1, d2, d3, d4, Int.not_le.2 d4]
              · simp [d1, d2, d3, d4, Int.not_le.1 d1, Int.not_le.1 d2, Int.not_le.1 d3, Int.not_lt.1 d4]

theorem right_eq {N : Nat} {t : List GRow} (hl : t.length ≤ 9223372036854775807) (hN : t.length < N) : ref01_RightX N t = some (tabB t) := by
  have := fun k => right_loop N t k hl N 0 (by simp; omega) (Nat.zero_le _)
  unfold ref01_RightX joinK tabB
  rw [show ((0 : Nat) : Int) = 0 from rfl] at this
  dsimp only
  rw [this]
  simp only [List.drop_zero, if_true, lookB_none, btw]
  by_cases h : (2 : Int) ≤ t.length <;> cases t.all rowB <;> cases stepsB t <;> simp [h]

theorem copy_loop (N : Nat) (t : List GRow) (k : List GRow → Option (List GRow)) (hl : t.length ≤ 1000) : ∀ (n i : Nat) (acc : List GRow), (t.drop i).length < n → i ≤ t.length → acc.length = i →
    law01_TableX_loop1 N t k n acc i = k (acc ++ t.drop i) := by
  intro n
  induction n with
  | zero => intro i acc h; omega
  | succ n ih =>
    intro i acc h hi ha
    unfold law01_TableX_loop1
    cases hd : t.drop i with
    | nil =>
      have := drop_nil hd
      rw [show (decide ((i : Int) < (t.length : Int))) = false by simp; omega]
      simp
    | cons a l =>
      obtain ⟨h1, h2, h3⟩ := drop_cons hd
      rw [show (decide ((i : Int) < (t.length : Int))) = true by simp; omega]
      have e : w64 ((i : Int) + 1) = ((i + 1 : Nat) : Int) := by rw [w64_id] <;> omega
      have hc : decide ((acc.length + [a].length) * 40 ≤ 140737488355328) = true := by simp; omega
      simp only [cond_true, getI_at h1, Option.bind_some, e, hc, chk]
      rw [ih (i + 1) _ (by rw [h2]; rw [hd] at h; simpa using h) (by omega) (by simp [ha]), h2]
      simp
theorem table_eq {N : Nat} {t : List GRow} (hl : t.length ≤ 1000) (hN : 1001 ≤ N) : law01_TableX N t = some t := by
  have := copy_loop N t (fun y => some y) hl N 0 [] (by simp; omega) (Nat.zero_le _) rfl
  rw [show ((0 : Nat) : Int) = 0 from rfl] at this
  unfold law01_TableX joinK
  dsimp only
  rw [this]
  simp

theorem stream_eq (N : Nat) (s : GStream) : law01_StreamX N s = some s := rfl
def strB (s : GStream) : Bool := btw s.Mass 0 1000000 && btw s.Heat 0 (4000 * s.Mass) && btw s.Silica 0 (10000 * s.Mass) && btw s.Gas 0 1000000000
theorem strB_aux {s : GStream} (h : btw s.Mass 0 1000000 = true) : w64 (4000 * s.Mass) = 4000 * s.Mass ∧ w64 (10000 * s.Mass) = 10000 * s.Mass := by
  simp only [btw, Bool.and_eq_true, decide_eq_true_eq] at h
  exact ⟨w64_id (by omega) (by omega), w64_id (by omega) (by omega)⟩
theorem rightStream_eq (N : Nat) (s : GStream) : ref01_RightStreamX N s = some (strB s) := by
  unfold ref01_RightStreamX strB
  simp only [in_eq, Option.bind_some]
  cases h : btw s.Mass 0 1000000 with
  | false => rfl
  | true =>
    rw [(strB_aux h).1, (strB_aux h).2]
    cases btw s.Heat 0 (4000 * s.Mass) <;> cases btw s.Silica 0 (10000 * s.Mass) <;> cases btw s.Gas 0 1000000000 <;> rfl
theorem validStream_eq (N : Nat) (s : GStream) : steam_Stream_validX N s = some (strB s) := by
  unfold steam_Stream_validX strB
  simp only [within_eq, Option.bind_some]
  cases h : btw s.Mass 0 1000000 with
  | false => rfl
  | true =>
    rw [(strB_aux h).1, (strB_aux h).2]
    cases btw s.Heat 0 (4000 * s.Mass) <;> cases btw s.Silica 0 (10000 * s.Mass) <;> cases btw s.Gas 0 1000000000 <;> rfl

/-! levels -/
def decB : List Int → Bool
  | a :: b :: l => decide (b < a) && decB (b :: l)
  | _ => true
def levB (n : Int) (l : List Int) : Bool := btw l.length 1 20 && l.all (fun x => btw x 0 (n - 1)) && decB l
theorem badLevel_loop (N : Nat) (t : List GRow) (l : List Int) (k : Unit → Option Int) (ht : t.length ≤ 1000) (hl : l.length ≤ 1000) : ∀ (n i : Nat), (l.drop i).length < n → i ≤ l.length →
    slices_IndexFunc_int_intX_1_loop1 N l t k n i = bif (l.drop i).all (fun x => btw x 0 (t.length - 1)) then k () else some ((i : Int) + ((l.drop i).findIdx fun x => !btw x 0 (t.length - 1) : Nat)) := by
  intro n
  induction n with
  | zero => intro i h; omega
  | succ n ih =>
    intro i h hi
    unfold slices_IndexFunc_int_intX_1_loop1
    cases hd : l.drop i with
    | nil =>
      have := drop_nil hd
      rw [show (decide ((i : Int) < (l.length : Int))) = false by simp; omega]
      rfl
    | cons a q =>
      obtain ⟨h1, h2, h3⟩ := drop_cons hd
      rw [show (decide ((i : Int) < (l.length : Int))) = true by simp; omega]
      have e0 : w64 ((t.length : Int) - 1) = (t.length : Int) - 1 := by rw [w64_id] <;> omega
      simp only [cond_true, getI_at h1, Option.bind_some, steam_all_int_1X_1, steam_Table_hasX, within_eq, e0]
      cases hr : btw a 0 ((t.length : Int) - 1) with
      | false => simp [hr, List.findIdx_cons]
      | true =>
        have e : w64 ((i : Int) + 1) = ((i + 1 : Nat) : Int) := by rw [w64_id] <;> omega
        rw [e]
        have := ih (i + 1) (by rw [h2]; rw [hd] at h; simpa using h) (by omega)
        simp only [Bool.not_true, cond_false, this, h2, List.all_cons, hr, Bool.true_and, List.findIdx_cons]
        congr 2
        push_cast
        omega
theorem allLevel_eq {N : Nat} {t : List GRow} {l : List Int} (ht : t.length ≤ 1000) (hl : l.length ≤ 1000) (hN : 1001 ≤ N) : steam_all_intX_1 N l t = some (l.all fun x => btw x 0 (t.length - 1)) := by
  have := badLevel_loop N t l (fun _ => some (-1)) ht hl N 0 (by simp; omega) (Nat.zero_le _)
  rw [show ((0 : Nat) : Int) = 0 from rfl, List.drop_zero] at this
  unfold steam_all_intX_1 slices_ContainsFunc_int_intX_1 slices_IndexFunc_int_intX_1 joinK
  dsimp only
  rw [this]
  cases h : l.all fun x => btw x 0 ((t.length : Int) - 1) with
  | true => simp
  | false => simp
theorem dec_loop (N : Nat) (l : List Int) (k : Unit → Option ((List GParts) × Int)) (hl : l.length ≤ 1000) : ∀ (n i : Nat), (l.drop i).length < n → i < l.length →
    steam_TrainX_loop1 N l k n i = bif decB (l.drop i) then k () else some ([], 2) := by
  intro n
  induction n with
  | zero => intro i h; omega
  | succ n ih =>
    intro i h hi
    unfold steam_TrainX_loop1
    have hlen : (l.drop (1 : Int).toNat).length = l.length - 1 := by simp
    cases hd : l.drop i with
    | nil => have := drop_nil hd; omega
    | cons a q =>
      obtain ⟨h1, h2, h3⟩ := drop_cons hd
      cases q with
      | nil =>
        have := drop_nil h2
        rw [show (decide ((i : Int) < ((l.drop (1 : Int).toNat).length : Int))) = false by rw [hlen]; simp; omega]
        rfl
      | cons b q =>
        obtain ⟨h4, h5, h6⟩ := drop_cons h2
        rw [show (decide ((i : Int) < ((l.drop (1 : Int).toNat).length : Int))) = true by rw [hlen]; simp; omega]
        have e : w64 ((i : Int) + 1) = ((i + 1 : Nat) : Int) := by rw [w64_id] <;> omega
        simp only [cond_true, e, getI_at h4, getI_at h1, Option.bind_some]
        have := ih (i + 1) (by rw [h2]; rw [hd] at h; simpa using h) (by omega)
        simp only [this, h2, decB]
        by_cases c1 : b ≥ a
        · simp [c1, Int.not_lt.2 c1]
        · simp [c1, Int.not_le.1 c1]
/-- The reference's look at levels. -/
def lookL (n : Int) : Option Int → List Int → Bool
  | _, [] => true
  | o, a :: l => btw a 0 (n - 1) && (match o with | none => true | some p => decide (a < p)) && lookL n (some a) l
theorem lookL_some (n : Int) : ∀ (a : Int) (l : List Int), lookL n (some a) l = (l.all (fun x => btw x 0 (n - 1)) && decB (a :: l))
  | _, [] => rfl
  | a, b :: l => by
    rw [lookL, lookL_some n b l, List.all_cons, decB]
    cases btw b 0 (n - 1) <;> cases l.all (fun x => btw x 0 (n - 1)) <;> by_cases h : b < a <;> simp [h]
theorem lookL_none (n : Int) : ∀ (l : List Int), lookL n none l = (l.all (fun x => btw x 0 (n - 1)) && decB l)
  | [] => rfl
  | a :: l => by
    rw [lookL, lookL_some n a l, List.all_cons]
    cases btw a 0 (n - 1) <;> simp
theorem levels_loop (N : Nat) (m : Int) (l : List Int) (k : Unit → Option Bool) (hl : l.length ≤ 9223372036854775807) (hm : w64 (m - 1) = m - 1) : ∀ (n i : Nat), (l.drop i).length < n → i ≤ l.length →
    ref01_LevelsX_loop1 N m k l n i = bif lookL m (if i = 0 then none else l[i - 1]?) (l.drop i) then k () else some false := by
  intro n
  induction n with
  | zero => intro i h; omega
  | succ n ih =>
    intro i h hi
    unfold ref01_LevelsX_loop1
    cases hd : l.drop i with
    | nil =>
      have := drop_nil hd
      rw [show (decide ((i : Int) < (l.length : Int))) = false by simp; omega]
      rfl
    | cons a q =>
      obtain ⟨h1, h2, h3⟩ := drop_cons hd
      rw [show (decide ((i : Int) < (l.length : Int))) = true by simp; omega]
      have e : w64 ((i : Int) + 1) = ((i + 1 : Nat) : Int) := by rw [w64_id] <;> omega
      have := ih (i + 1) (by rw [h2]; rw [hd] at h; simpa using h) (by omega)
      simp only [Nat.add_sub_cancel, Nat.succ_ne_zero, if_false, h1, h2] at this
      simp only [cond_true, getI_at h1, Option.bind_some, e, in_eq, this, lookL, hm]
      cases btw a 0 (m - 1)
      · rfl
      cases i with
      | zero => simp
      | succ i =>
        have hp : l[i]? = some l[i] := List.getElem?_eq_getElem (by omega)
        have e2 : w64 (((i + 1 : Nat) : Int) - 1) = (i : Int) := by rw [w64_id] <;> omega
        have e3 : (decide (((i + 1 : Nat) : Int) > 0)) = true := by rw [decide_eq_true_eq]; omega
        generalize l[i] = b at hp
        simp only [Bool.not_true, cond_false, e3, cond_true, e2, getI_at hp, Option.bind_some, Nat.add_sub_cancel, hp, show ¬ (i + 1 = 0) by omega, if_false, Bool.true_and]
        by_cases d1 : a ≥ b
        · simp [d1, Int.not_lt.2 d1]
        · simp [d1, Int.not_le.1 d1]
theorem levels_eq {N : Nat} {m : Int} {l : List Int} (hl : l.length ≤ 9223372036854775807) (hm : w64 (m - 1) = m - 1) (hN : l.length < N) : ref01_LevelsX N m l = some (levB m l) := by
  have := fun k => levels_loop N m l k hl hm N 0 (by simp; omega) (Nat.zero_le _)
  unfold ref01_LevelsX joinK levB
  rw [show ((0 : Nat) : Int) = 0 from rfl] at this
  dsimp only
  rw [this]
  simp only [List.drop_zero, if_true, lookL_none, btw]
  by_cases h : (1 : Int) ≤ l.length <;> cases l.all (fun x => decide (0 ≤ x) && decide (x ≤ m - 1)) <;> cases decB l <;> simp [h]
end Go.Proofs.Ytenpbiineblcjaa
