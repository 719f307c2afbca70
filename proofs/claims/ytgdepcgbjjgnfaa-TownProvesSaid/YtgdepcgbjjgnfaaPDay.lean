/-
  Plain: valid days, what an hour has, copies, the first hour that is short, levels and costs. No conditions.
-/
import Derived.Test.YtgdepcgbjjgnfaaX17
import Derived.Test.YtgdepcgbjjgnfaaPTown
namespace Go.Proofs.Ytgdepcgbjjgnfaa
open Go.RowKit
def stB (s : GStair) : Bool := btw s.Amount 1 1000000000 && btw s.Price 0 1000
def Qiy : Option GStair → List GStair → Bool
 | _, [] => true
 | none, b :: l => stB b && Qiy (some b) l
 | some a, b :: l => stB b && decide (a.Price < b.Price) && Qiy (some b) l
def Qjy (h : GHour) : Bool := Qiy none h.Stairs && btw h.Use 0 1000000000 && decide ((h.Stairs.length : Int) ≤ 6)
def dayB (d : GDay) : Bool := btw d.Tank 0 1000000000 && btw d.Start 0 d.Tank && btw d.Hours.length 1 24 && d.Hours.all Qjy
def Qm9 (t : List GStair) (i : Nat) : Option GStair := if i = 0 then none else t[i - 1]?
theorem Qph {t : List GStair} {i : Nat} {b : GStair} (h : t[i]? = some b) : Qm9 t (i + 1) = some b := by simp [Qm9, h]
theorem Qx2 (N : Nat) (x : Int) : Qfo N x = some (btw x 0 1000000000) := by
 unfold Qfo
 rw [Qj8]
 rfl
theorem stP_loop (N : Nat) (h : GHour) (k : Unit → Option Bool) (hl : h.Stairs.length ≤ 1000) : ∀ (n i : Nat), (h.Stairs.drop i).length < n →
  Qch N h k n i = bif Qiy (Qm9 h.Stairs i) (h.Stairs.drop i) then k () else some false := by
 intro n
 induction n with
 | zero => intro i h; exact absurd h (Nat.not_lt_zero _)
 | succ n ih =>
  intro i hn
  rw [Qch]
  cases hd : h.Stairs.drop i with
  | nil =>
   have := Qgh hd
   simp [show ¬ ((i : Int) < h.Stairs.length) from by omega, Qiy]
  | cons b l =>
   obtain ⟨hi, hd', hlt⟩ := Qft hd
   have e1 : w64 ((i : Int) + 1) = ((i + 1 : Nat) : Int) := Qco (by omega) (by omega)
   have ih' := ih (i + 1) (by rw [hd']; rw [hd] at hn; simp at hn; omega)
   rw [hd', Qph hi] at ih'
   simp only [show decide ((i : Int) < h.Stairs.length) = true from by simpa using hlt, cond_true, Qcs hi, Option.bind_some, Qj8, e1, ih']
   rcases Nat.eq_zero_or_pos i with rfl | hp
   ·simp only [Qm9, if_true, Qiy, stB]
    cases btw b.Amount 1 1000000000 <;> cases btw b.Price 0 1000 <;> simp
   ·obtain ⟨a, ha⟩ : ∃ a, h.Stairs[i - 1]? = some a := ⟨_, List.getElem?_eq_getElem (by omega)⟩
    have e2 : w64 ((i : Int) - 1) = ((i - 1 : Nat) : Int) := by rw [Qco (by omega) (by omega)]; omega
    have e3 : Qm9 h.Stairs i = some a := by rw [Qm9, if_neg (by omega), ha]
    simp only [e2, Qcs ha, Option.bind_some, e3, Qiy, stB, show decide ((i : Int) > 0) = true from by simpa using hp, cond_true]
    cases btw b.Amount 1 1000000000 <;> cases btw b.Price 0 1000 <;> by_cases hu : b.Price ≤ a.Price <;> simp [hu, Int.not_lt.2, Int.not_le.1] <;> (try omega)
theorem stR_loop (N : Nat) (h : GHour) (k : Unit → Option Bool) (hl : h.Stairs.length ≤ 1000) : ∀ (n i : Nat), (h.Stairs.drop i).length < n →
  Qcw N k h n i = bif Qiy (Qm9 h.Stairs i) (h.Stairs.drop i) then k () else some false := by
 intro n
 induction n with
 | zero => intro i h; exact absurd h (Nat.not_lt_zero _)
 | succ n ih =>
  intro i hn
  rw [Qcw]
  cases hd : h.Stairs.drop i with
  | nil =>
   have := Qgh hd
   simp [show ¬ ((i : Int) < h.Stairs.length) from by omega, Qiy]
  | cons b l =>
   obtain ⟨hi, hd', hlt⟩ := Qft hd
   have e1 : w64 ((i : Int) + 1) = ((i + 1 : Nat) : Int) := Qco (by omega) (by omega)
   have ih' := ih (i + 1) (by rw [hd']; rw [hd] at hn; simp at hn; omega)
   rw [hd', Qph hi] at ih'
   simp only [show decide ((i : Int) < h.Stairs.length) = true from by simpa using hlt, cond_true, Qcs hi, Option.bind_some, Qyt, e1, ih']
   rcases Nat.eq_zero_or_pos i with rfl | hp
   ·simp only [Qm9, if_true, Qiy, stB]
    cases btw b.Amount 1 1000000000 <;> cases btw b.Price 0 1000 <;> simp
   ·obtain ⟨a, ha⟩ : ∃ a, h.Stairs[i - 1]? = some a := ⟨_, List.getElem?_eq_getElem (by omega)⟩
    have e2 : w64 ((i : Int) - 1) = ((i - 1 : Nat) : Int) := by rw [Qco (by omega) (by omega)]; omega
    have e3 : Qm9 h.Stairs i = some a := by rw [Qm9, if_neg (by omega), ha]
    simp only [e2, Qcs ha, Option.bind_some, e3, Qiy, stB, show decide ((i : Int) > 0) = true from by simpa using hp, cond_true]
    cases btw b.Amount 1 1000000000 <;> cases btw b.Price 0 1000 <;> by_cases hu : b.Price ≤ a.Price <;> simp [hu, Int.not_lt.2, Int.not_le.1] <;> (try omega)
theorem hourP_eq {N : Nat} {h : GHour} (hl : h.Stairs.length ≤ 1000) (hN : 2000 ≤ N) : Qfp N h = some (Qjy h) := by
 unfold Qfp Qjy
 simp only [Qbr, Qx2, Option.bind_some]
 have := stP_loop N h (fun _ => bif btw h.Use 0 1000000000 then some (decide ((h.Stairs.length : Int) ≤ 6)) else some false) hl N 0 (by simp; omega)
 rw [show ((0 : Nat) : Int) = 0 from rfl, List.drop_zero] at this
 rw [this]
 cases hlk : Qiy none h.Stairs <;> cases hu : btw h.Use 0 1000000000 <;> simp [Qm9, hlk]
def FewP (d : GDay) : Prop := d.Hours.length ≤ 30 ∧ ∀ h ∈ d.Hours, h.Stairs.length ≤ 10
theorem Qsi (N : Nat) (t : List GHour) (k : Unit → Option Int) (hN : 2000 ≤ N) (hl : t.length ≤ 1000) (hs : ∀ h ∈ t, h.Stairs.length ≤ 10) : ∀ (n i : Nat), (t.drop i).length < n → i ≤ t.length →
  Qax N t k n i = bif (t.drop i).all Qjy then k () else some ((i : Int) + ((t.drop i).findIdx fun x => !Qjy x : Nat)) := by
 intro n
 induction n with
 | zero => intro i h; exact absurd h (Nat.not_lt_zero _)
 | succ n ih =>
  intro i h hi
  rw [Qax]
  cases hd : t.drop i with
  | nil =>
   have := Qgh hd
   simp [show ¬ ((i : Int) < t.length) from by omega]
  | cons b l =>
   obtain ⟨hg, hd', hlt⟩ := Qft hd
   have e1 : w64 ((i : Int) + 1) = ((i + 1 : Nat) : Int) := Qco (by omega) (by omega)
   have ih' := ih (i + 1) (by rw [hd']; rw [hd] at h; simp at h; omega) hlt
   have hb10 := hs b (List.mem_of_getElem? hg)
   rw [hd'] at ih'
   simp only [show decide ((i : Int) < t.length) = true from by simpa using hlt, cond_true, Qcs hg, Option.bind_some, Qej, hourP_eq (show b.Stairs.length ≤ 1000 by omega) hN, e1, ih', List.all_cons, List.findIdx_cons]
   cases hb : Qjy b with
   | false => simp
   | true =>
    cases hu : l.all Qjy with
    | true => simp
    | false => simp; omega
theorem Qto {N : Nat} {d : GDay} (hf : FewP d) (hN : 2000 ≤ N) : Qet N d = some (dayB d) := by
 unfold Qet dayB
 have key : Qec N d.Hours = some (d.Hours.all Qjy) := by
  unfold Qec Qbv Qb7
  simp only [Qbr]
  have h1 := hf.1
  have := Qsi N d.Hours (fun _ => some (-1)) hN (by omega) hf.2 N 0 (by simp; omega) (Nat.zero_le _)
  rw [show ((0 : Nat) : Int) = 0 from rfl, List.drop_zero] at this
  rw [this]
  cases d.Hours.all Qjy with
  | true => rfl
  | false => simp
 simp only [Qx2, Qj8, key, Option.bind_some]
 cases btw d.Tank 0 1000000000 <;> cases btw d.Start 0 d.Tank <;> cases btw d.Hours.length 1 24 <;> simp
theorem dayR_loop (N : Nat) (d : GDay) (k : Unit → Option Bool) (hN : 2000 ≤ N) (hf : FewP d) : ∀ (n i : Nat), (d.Hours.drop i).length < n →
  Qdb N d k n i = bif (d.Hours.drop i).all Qjy then k () else some false := by
 intro n
 induction n with
 | zero => intro i h; exact absurd h (Nat.not_lt_zero _)
 | succ n ih =>
  intro i h
  have hf1 := hf.1
  rw [Qdb]
  cases hd : d.Hours.drop i with
  | nil =>
   have := Qgh hd
   simp [show ¬ ((i : Int) < d.Hours.length) from by omega]
  | cons b l =>
   obtain ⟨hg, hd', hlt⟩ := Qft hd
   have e1 : w64 ((i : Int) + 1) = ((i + 1 : Nat) : Int) := Qco (by omega) (by omega)
   have ih' := ih (i + 1) (by rw [hd']; rw [hd] at h; simp at h; omega)
   have hb10 := hf.2 b (List.mem_of_getElem? hg)
   rw [hd'] at ih'
   have h2 := stR_loop N b (fun _ => bif l.all Qjy then k () else some false) (by omega) N 0 (by simp; omega)
   rw [show ((0 : Nat) : Int) = 0 from rfl, List.drop_zero] at h2
   simp only [show decide ((i : Int) < d.Hours.length) = true from by simpa using hlt, cond_true, Qcs hg, Option.bind_some, Qbr, Qyt, e1, h2, ih', List.all_cons, Qjy, Qm9, if_true]
   cases btw b.Use 0 1000000000 <;> cases hlk : Qiy none b.Stairs <;> by_cases h6 : (b.Stairs.length : Int) ≤ 6 <;> simp [h6, Int.not_lt.2, Int.not_le.1] <;> omega
theorem dayR_eq {N : Nat} {d : GDay} (hf : FewP d) (hN : 2000 ≤ N) : Qf5 N d = some (dayB d) := by
 unfold Qf5 dayB
 simp only [Qbr, Qyt, Option.bind_some]
 have h1 := hf.1
 have := dayR_loop N d (fun _ => some true) hN hf N 0 (by simp; omega)
 rw [show ((0 : Nat) : Int) = 0 from rfl, List.drop_zero] at this
 rw [this]
 unfold btw
 by_cases h2 : (1 : Int) ≤ d.Hours.length <;> by_cases h3 : (d.Hours.length : Int) ≤ 24 <;> cases (decide (0 ≤ d.Tank) && decide (d.Tank ≤ 1000000000)) <;> cases (decide (0 ≤ d.Start) && decide (d.Start ≤ d.Tank)) <;> cases d.Hours.all Qjy <;> simp [h2, h3, Int.not_lt.2, Int.not_le.1] <;> omega
theorem few_loop (N : Nat) (d : GDay) (k : Unit → Option Bool) (hl : d.Hours.length ≤ 9223372036854775807) : ∀ (n i : Nat), (d.Hours.drop i).length < n →
  Qef N d k n i = bif (d.Hours.drop i).all (fun h => decide ((h.Stairs.length : Int) ≤ 10)) then k () else some false := by
 intro n
 induction n with
 | zero => intro i h; exact absurd h (Nat.not_lt_zero _)
 | succ n ih =>
  intro i h
  rw [Qef]
  cases hd : d.Hours.drop i with
  | nil =>
   have := Qgh hd
   simp [show ¬ ((i : Int) < d.Hours.length) from by omega]
  | cons b l =>
   obtain ⟨hg, hd', hlt⟩ := Qft hd
   have e1 : w64 ((i : Int) + 1) = ((i + 1 : Nat) : Int) := Qco (by omega) (by omega)
   have ih' := ih (i + 1) (by rw [hd']; rw [hd] at h; simp at h; omega)
   rw [hd'] at ih'
   simp only [show decide ((i : Int) < d.Hours.length) = true from by simpa using hlt, cond_true, Qcs hg, Option.bind_some, e1, ih', List.all_cons]
   by_cases hb : (b.Stairs.length : Int) ≤ 10
   ·simp [hb, show ¬ ((10 : Int) < b.Stairs.length) from by omega]
   ·simp [hb, show (10 : Int) < b.Stairs.length from by omega]
theorem few_eq {N : Nat} {d : GDay} (hl : d.Hours.length ≤ 9223372036854775807) (hN : d.Hours.length < N) : ∃ b, Qiz N d = some b ∧ (b = true → FewP d) := by
 refine ⟨d.Hours.all (fun h => decide ((h.Stairs.length : Int) ≤ 10)) && decide ((d.Hours.length : Int) ≤ 30), ?_, fun h => ?_⟩
 ·unfold Qiz
  simp only [Qbr]
  have := few_loop N d (fun _ => some (decide ((d.Hours.length : Int) ≤ 30))) hl N 0 (by simpa using hN)
  rw [show ((0 : Nat) : Int) = 0 from rfl, List.drop_zero] at this
  rw [this]
  cases d.Hours.all (fun h => decide ((h.Stairs.length : Int) ≤ 10)) <;> simp
 ·simp only [Bool.and_eq_true, List.all_eq_true, decide_eq_true_eq] at h
  exact ⟨by omega, fun x hx => by have := h.1 x hx; omega⟩
theorem Qws (N : Nat) (h : GHour) (k : List GHour × List GStair → Option GDay) (q : List GHour) (hl : h.Stairs.length ≤ 1000) : ∀ (n i : Nat) (acc : List GStair), (h.Stairs.drop i).length < n → i ≤ h.Stairs.length → acc.length = i →
  Qeg N h k n i q acc = k (q, acc ++ h.Stairs.drop i) := by
 intro n
 induction n with
 | zero => intro i _ h; exact absurd h (Nat.not_lt_zero _)
 | succ n ih =>
  intro i acc hn hi hacc
  rw [Qeg]
  cases hd : h.Stairs.drop i with
  | nil =>
   have := Qgh hd
   simp [show ¬ ((i : Int) < h.Stairs.length) from by omega]
  | cons b l =>
   obtain ⟨hg, hd', hlt⟩ := Qft hd
   have e1 : w64 ((i : Int) + 1) = ((i + 1 : Nat) : Int) := Qco (by omega) (by omega)
   simp only [show decide ((i : Int) < h.Stairs.length) = true from by simpa using hlt, cond_true, Qcs hg, Option.bind_some, e1]
   rw [ih (i + 1) (acc ++ [b]) (by rw [hd']; rw [hd] at hn; simp at hn; omega) hlt (by simp [hacc]), hd']
   simp only [chk, show decide ((acc.length + [b].length) * 16 ≤ 140737488355328) = true from by simp; omega, cond_true, List.append_assoc, List.cons_append, List.nil_append]
theorem Qwt (N : Nat) (d : GDay) (k : List GHour → Option GDay) (hN : 2000 ≤ N) (hf : FewP d) : ∀ (n i : Nat) (acc : List GHour), (d.Hours.drop i).length < n → i ≤ d.Hours.length → acc.length = i →
  Qd1 N d k n i acc = k (acc ++ d.Hours.drop i) := by
 intro n
 induction n with
 | zero => intro i _ h; exact absurd h (Nat.not_lt_zero _)
 | succ n ih =>
  intro i acc h hi hacc
  have hf1 := hf.1
  rw [Qd1]
  cases hd : d.Hours.drop i with
  | nil =>
   have := Qgh hd
   simp [show ¬ ((i : Int) < d.Hours.length) from by omega]
  | cons b l =>
   obtain ⟨hg, hd', hlt⟩ := Qft hd
   have hb10 := hf.2 b (List.mem_of_getElem? hg)
   have e1 : w64 ((i : Int) + 1) = ((i + 1 : Nat) : Int) := Qco (by omega) (by omega)
   simp only [show decide ((i : Int) < d.Hours.length) = true from by simpa using hlt, cond_true, Qcs hg, Option.bind_some, e1, Qbr]
   have h2 := Qws N b (fun x => match x with | (y15, y16) => chk (decide ((y15.length + ([(⟨b.Use, y16⟩ : GHour)]).length) * 32 ≤ 140737488355328)) (Qd1 N d k n ((i + 1 : Nat) : Int) (y15 ++ ([(⟨b.Use, y16⟩ : GHour)])))) acc (by omega) N 0 [] (by simp; omega) (by omega) rfl
   rw [show ((0 : Nat) : Int) = 0 from rfl, List.drop_zero, List.nil_append] at h2
   rw [h2]
   dsimp only
   rw [ih (i + 1) (acc ++ [b]) (by rw [hd']; rw [hd] at h; simp at h; omega) hlt (by simp [hacc]), hd']
   simp only [chk, show decide ((acc.length + [(⟨b.Use, b.Stairs⟩ : GHour)].length) * 32 ≤ 140737488355328) = true from by simp; omega, cond_true, List.append_assoc, List.cons_append, List.nil_append]
theorem copyD_eq {N : Nat} {d : GDay} (hf : FewP d) (hN : 2000 ≤ N) : Qhy N d = some d := by
 unfold Qhy
 simp only [Qbr]
 have hf1 := hf.1
 have := Qwt N d (fun y1 => some ⟨d.Tank, d.Start, y1⟩) hN hf N 0 [] (by simp; omega) (by omega) rfl
 simpa using this
theorem Qvh {N : Nat} {l : List Int} (hl : l.length ≤ 1000) : Qf6 N l = some l := by
 unfold Qf6
 simp only [chk]
 rw [show decide ((([] : List Int).length + l.length) * 8 ≤ 140737488355328) = true from by simp; omega]
 simp
structure HourP (h : GHour) : Prop where
 use : 0 ≤ h.Use ∧ h.Use ≤ 1000000000
 few : h.Stairs.length ≤ 6
 st : ∀ s ∈ h.Stairs, 1 ≤ s.Amount ∧ s.Amount ≤ 1000000000 ∧ 0 ≤ s.Price ∧ s.Price ≤ 1000
theorem Qoe : ∀ (l : List GStair) (a : Option GStair), Qiy a l = true → ∀ s ∈ l, 1 ≤ s.Amount ∧ s.Amount ≤ 1000000000 ∧ 0 ≤ s.Price ∧ s.Price ≤ 1000
 | [], _, _ => fun _ h => by cases h
 | b :: l, a, h => by
  have hb : stB b = true ∧ Qiy (some b) l = true := by cases a <;> simp [Qiy] at h <;> simp [h]
  intro x hx
  rcases List.mem_cons.1 hx with rfl | hx
  ·have := hb.1
   simp only [stB, Bool.and_eq_true, Qht] at this
   omega
  ·exact Qoe l (some b) hb.2 x hx
theorem hourP_of {h : GHour} (hb : Qjy h = true) : HourP h := by
 simp only [Qjy, Bool.and_eq_true, Qht, decide_eq_true_eq] at hb
 exact ⟨hb.1.2, by omega, Qoe _ _ hb.1.1⟩
def Qdm (l : List GStair) : Int := (l.map (·.Amount)).sum
theorem Quv : ∀ {l : List GStair}, (∀ s ∈ l, 1 ≤ s.Amount ∧ s.Amount ≤ 1000000000 ∧ 0 ≤ s.Price ∧ s.Price ≤ 1000) → 0 ≤ Qdm l ∧ Qdm l ≤ 1000000000 * l.length
 | [], _ => by simp [Qdm]
 | s :: l, h => by
  have h1 := h s (by simp)
  have h2 := Quv (l := l) fun x hx => h x (List.mem_cons_of_mem _ hx)
  unfold Qdm at h2 ⊢
  simp only [List.map_cons, List.sum_cons, List.length_cons]
  omega
theorem Qs5 (N : Nat) (h : GHour) (k : Int → Option Int) (hp : HourP h) : ∀ (n i : Nat) (a : Int), (h.Stairs.drop i).length < n → 0 ≤ a → a ≤ 1000000000 * i → Qc5 N h k n a i = k (a + Qdm (h.Stairs.drop i)) := by
 intro n
 induction n with
 | zero => intro i _ h; exact absurd h (Nat.not_lt_zero _)
 | succ n ih =>
  intro i a hn h0 h1
  have hf := hp.few
  rw [Qc5]
  cases hd : h.Stairs.drop i with
  | nil =>
   have := Qgh hd
   simp [show ¬ ((i : Int) < h.Stairs.length) from by omega, Qdm]
  | cons b l =>
   obtain ⟨hg, hd', hlt⟩ := Qft hd
   have hb := hp.st b (List.mem_of_getElem? hg)
   have e1 : w64 ((i : Int) + 1) = ((i + 1 : Nat) : Int) := Qco (by omega) (by omega)
   simp only [show decide ((i : Int) < h.Stairs.length) = true from by simpa using hlt, cond_true, Qcs hg, Option.bind_some, e1]
   rw [Qco (by omega) (by omega), ih (i + 1) _ (by rw [hd']; rw [hd] at hn; simp at hn; omega) (by omega) (by omega), hd']
   simp [Qdm, Int.add_assoc]
theorem Qrq {N : Nat} {h : GHour} (hp : HourP h) (hN : 2000 ≤ N) : Qe1 N h = some (Qdm h.Stairs) := by
 unfold Qe1
 simp only [Qbr]
 have hf := hp.few
 have := Qs5 N h (fun y => some y) hp N 0 0 (by simp; omega) (Int.le_refl _) (by omega)
 rw [show ((0 : Nat) : Int) = 0 from rfl, List.drop_zero, Int.zero_add] at this
 exact this
theorem Qs4 (N : Nat) (h : GHour) (k : Int → Option Int) (hp : HourP h) : ∀ (n i : Nat) (a : Int), (h.Stairs.drop i).length < n → 0 ≤ a → a ≤ 1000000000 * i → Qdx N h k n a i = k (a + Qdm (h.Stairs.drop i)) := by
 intro n
 induction n with
 | zero => intro i _ h; exact absurd h (Nat.not_lt_zero _)
 | succ n ih =>
  intro i a hn h0 h1
  have hf := hp.few
  rw [Qdx]
  cases hd : h.Stairs.drop i with
  | nil =>
   have := Qgh hd
   simp [show ¬ ((i : Int) < h.Stairs.length) from by omega, Qdm]
  | cons b l =>
   obtain ⟨hg, hd', hlt⟩ := Qft hd
   have hb := hp.st b (List.mem_of_getElem? hg)
   have e1 : w64 ((i : Int) + 1) = ((i + 1 : Nat) : Int) := Qco (by omega) (by omega)
   simp only [show decide ((i : Int) < h.Stairs.length) = true from by simpa using hlt, cond_true, Qcs hg, Option.bind_some, e1]
   rw [Qco (by omega) (by omega), ih (i + 1) _ (by rw [hd']; rw [hd] at hn; simp at hn; omega) (by omega) (by omega), hd']
   simp [Qdm, Int.add_assoc]
theorem Qx1 {N : Nat} {h : GHour} (hp : HourP h) (hN : 2000 ≤ N) : Qhl N h = some (Qdm h.Stairs) := by
 unfold Qhl
 simp only [Qbr]
 have hf := hp.few
 have := Qs4 N h (fun y => some y) hp N 0 0 (by simp; omega) (Int.le_refl _) (by omega)
 rw [show ((0 : Nat) : Int) = 0 from rfl, List.drop_zero, Int.zero_add] at this
 exact this
end Go.Proofs.Ytgdepcgbjjgnfaa
