/-
  Plain: valid days, what an hour has, copies, the first hour that is short, levels and costs. No conditions.
-/
import Derived.Test.YtgdepcgbjjgnfaaX17
import Derived.Test.YtgdepcgbjjgnfaaPTown
namespace Go.Proofs.Ytgdepcgbjjgnfaa
open Go.RowKit
def stB (s : GStair) : Bool := btw s.Amount 1 1000000000 && btw s.Price 0 1000
def Qhl : Option GStair → List GStair → Bool
 | _, [] => true
 | none, b :: l => stB b && Qhl (some b) l
 | some a, b :: l => stB b && decide (a.Price < b.Price) && Qhl (some b) l
def Qgm (h : GHour) : Bool := Qhl none h.Stairs && btw h.Use 0 1000000000 && decide ((h.Stairs.length : Int) ≤ 6)
def dayB (d : GDay) : Bool := btw d.Tank 0 1000000000 && btw d.Start 0 d.Tank && btw d.Hours.length 1 24 && d.Hours.all Qgm
def Qk5 (t : List GStair) (i : Nat) : Option GStair := if i = 0 then none else t[i - 1]?
theorem Qm2 {t : List GStair} {i : Nat} {b : GStair} (h : t[i]? = some b) : Qk5 t (i + 1) = some b := by simp [Qk5, h]
theorem Qu5 (N : Nat) (x : Int) : Qet N x = some (btw x 0 1000000000) := by
 unfold Qet
 rw [Qlm]
 rfl
theorem Qxx (N : Nat) (h : GHour) (k : Unit → Option Bool) (hl : h.Stairs.length ≤ 1000) : ∀ (n i : Nat), (h.Stairs.drop i).length < n →
  Qb3 N h k n i = bif Qhl (Qk5 h.Stairs i) (h.Stairs.drop i) then k () else some false := by
 intro n
 induction n with
 | zero => intro i h; exact absurd h (Nat.not_lt_zero _)
 | succ n ih =>
  intro i hn
  rw [Qb3]
  cases hd : h.Stairs.drop i with
  | nil =>
   have := Qfv hd
   simp [show ¬ ((i : Int) < h.Stairs.length) from by omega, Qhl]
  | cons b l =>
   obtain ⟨hi, hd', hlt⟩ := Qfa hd
   have e1 : w64 ((i : Int) + 1) = ((i + 1 : Nat) : Int) := Qc3 (by omega) (by omega)
   have ih' := ih (i + 1) (by rw [hd']; rw [hd] at hn; simp at hn; omega)
   rw [hd', Qm2 hi] at ih'
   simp only [show decide ((i : Int) < h.Stairs.length) = true from by simpa using hlt, cond_true, Qd2 hi, Option.bind_some, Qlm, e1, ih']
   rcases Nat.eq_zero_or_pos i with rfl | hp
   ·simp only [Qk5, if_true, Qhl, stB]
    cases btw b.Amount 1 1000000000 <;> cases btw b.Price 0 1000 <;> simp
   ·obtain ⟨a, ha⟩ : ∃ a, h.Stairs[i - 1]? = some a := ⟨_, List.getElem?_eq_getElem (by omega)⟩
    have e2 : w64 ((i : Int) - 1) = ((i - 1 : Nat) : Int) := by rw [Qc3 (by omega) (by omega)]; omega
    have e3 : Qk5 h.Stairs i = some a := by rw [Qk5, if_neg (by omega), ha]
    simp only [e2, Qd2 ha, Option.bind_some, e3, Qhl, stB, show decide ((i : Int) > 0) = true from by simpa using hp, cond_true]
    cases btw b.Amount 1 1000000000 <;> cases btw b.Price 0 1000 <;> by_cases hu : b.Price ≤ a.Price <;> simp [hu, Int.not_lt.2, Int.not_le.1] <;> (try omega)
theorem Qxw (N : Nat) (h : GHour) (k : Unit → Option Bool) (hl : h.Stairs.length ≤ 1000) : ∀ (n i : Nat), (h.Stairs.drop i).length < n →
  Qcf N k h n i = bif Qhl (Qk5 h.Stairs i) (h.Stairs.drop i) then k () else some false := by
 intro n
 induction n with
 | zero => intro i h; exact absurd h (Nat.not_lt_zero _)
 | succ n ih =>
  intro i hn
  rw [Qcf]
  cases hd : h.Stairs.drop i with
  | nil =>
   have := Qfv hd
   simp [show ¬ ((i : Int) < h.Stairs.length) from by omega, Qhl]
  | cons b l =>
   obtain ⟨hi, hd', hlt⟩ := Qfa hd
   have e1 : w64 ((i : Int) + 1) = ((i + 1 : Nat) : Int) := Qc3 (by omega) (by omega)
   have ih' := ih (i + 1) (by rw [hd']; rw [hd] at hn; simp at hn; omega)
   rw [hd', Qm2 hi] at ih'
   simp only [show decide ((i : Int) < h.Stairs.length) = true from by simpa using hlt, cond_true, Qd2 hi, Option.bind_some, in_eq, e1, ih']
   rcases Nat.eq_zero_or_pos i with rfl | hp
   ·simp only [Qk5, if_true, Qhl, stB]
    cases btw b.Amount 1 1000000000 <;> cases btw b.Price 0 1000 <;> simp
   ·obtain ⟨a, ha⟩ : ∃ a, h.Stairs[i - 1]? = some a := ⟨_, List.getElem?_eq_getElem (by omega)⟩
    have e2 : w64 ((i : Int) - 1) = ((i - 1 : Nat) : Int) := by rw [Qc3 (by omega) (by omega)]; omega
    have e3 : Qk5 h.Stairs i = some a := by rw [Qk5, if_neg (by omega), ha]
    simp only [e2, Qd2 ha, Option.bind_some, e3, Qhl, stB, show decide ((i : Int) > 0) = true from by simpa using hp, cond_true]
    cases btw b.Amount 1 1000000000 <;> cases btw b.Price 0 1000 <;> by_cases hu : b.Price ≤ a.Price <;> simp [hu, Int.not_lt.2, Int.not_le.1] <;> (try omega)
theorem Qyg {N : Nat} {h : GHour} (hl : h.Stairs.length ≤ 1000) (hN : 2000 ≤ N) : Qev N h = some (Qgm h) := by
 unfold Qev Qgm
 simp only [Qcl, Qu5, Option.bind_some]
 have := Qxx N h (fun _ => bif btw h.Use 0 1000000000 then some (decide ((h.Stairs.length : Int) ≤ 6)) else some false) hl N 0 (by simp; omega)
 rw [show ((0 : Nat) : Int) = 0 from rfl, List.drop_zero] at this
 rw [this]
 cases hlk : Qhl none h.Stairs <;> cases hu : btw h.Use 0 1000000000 <;> simp [Qk5, hlk]
def FewP (d : GDay) : Prop := d.Hours.length ≤ 30 ∧ ∀ h ∈ d.Hours, h.Stairs.length ≤ 10
theorem Qp9 (N : Nat) (t : List GHour) (k : Unit → Option Int) (hN : 2000 ≤ N) (hl : t.length ≤ 1000) (hs : ∀ h ∈ t, h.Stairs.length ≤ 10) : ∀ (n i : Nat), (t.drop i).length < n → i ≤ t.length →
  Qar N t k n i = bif (t.drop i).all Qgm then k () else some ((i : Int) + ((t.drop i).findIdx fun x => !Qgm x : Nat)) := by
 intro n
 induction n with
 | zero => intro i h; exact absurd h (Nat.not_lt_zero _)
 | succ n ih =>
  intro i h hi
  rw [Qar]
  cases hd : t.drop i with
  | nil =>
   have := Qfv hd
   simp [show ¬ ((i : Int) < t.length) from by omega]
  | cons b l =>
   obtain ⟨hg, hd', hlt⟩ := Qfa hd
   have e1 : w64 ((i : Int) + 1) = ((i + 1 : Nat) : Int) := Qc3 (by omega) (by omega)
   have ih' := ih (i + 1) (by rw [hd']; rw [hd] at h; simp at h; omega) hlt
   have hb10 := hs b (List.mem_of_getElem? hg)
   rw [hd'] at ih'
   simp only [show decide ((i : Int) < t.length) = true from by simpa using hlt, cond_true, Qd2 hg, Option.bind_some, Qd0, Qyg (show b.Stairs.length ≤ 1000 by omega) hN, e1, ih', List.all_cons, List.findIdx_cons]
   cases hb : Qgm b with
   | false => simp
   | true =>
    cases hu : l.all Qgm with
    | true => simp
    | false => simp; omega
theorem Qwj {N : Nat} {d : GDay} (hf : FewP d) (hN : 2000 ≤ N) : Qej N d = some (dayB d) := by
 unfold Qej dayB
 have key : Qdp N d.Hours = some (d.Hours.all Qgm) := by
  unfold Qdp Qbm Qbx
  simp only [Qcl]
  have h1 := hf.1
  have := Qp9 N d.Hours (fun _ => some (-1)) hN (by omega) hf.2 N 0 (by simp; omega) (Nat.zero_le _)
  rw [show ((0 : Nat) : Int) = 0 from rfl, List.drop_zero] at this
  rw [this]
  cases d.Hours.all Qgm with
  | true => rfl
  | false => simp
 simp only [Qu5, Qlm, key, Option.bind_some]
 cases btw d.Tank 0 1000000000 <;> cases btw d.Start 0 d.Tank <;> cases btw d.Hours.length 1 24 <;> simp
theorem Qwi (N : Nat) (d : GDay) (k : Unit → Option Bool) (hN : 2000 ≤ N) (hf : FewP d) : ∀ (n i : Nat), (d.Hours.drop i).length < n →
  Qcv N d k n i = bif (d.Hours.drop i).all Qgm then k () else some false := by
 intro n
 induction n with
 | zero => intro i h; exact absurd h (Nat.not_lt_zero _)
 | succ n ih =>
  intro i h
  have hf1 := hf.1
  rw [Qcv]
  cases hd : d.Hours.drop i with
  | nil =>
   have := Qfv hd
   simp [show ¬ ((i : Int) < d.Hours.length) from by omega]
  | cons b l =>
   obtain ⟨hg, hd', hlt⟩ := Qfa hd
   have e1 : w64 ((i : Int) + 1) = ((i + 1 : Nat) : Int) := Qc3 (by omega) (by omega)
   have ih' := ih (i + 1) (by rw [hd']; rw [hd] at h; simp at h; omega)
   have hb10 := hf.2 b (List.mem_of_getElem? hg)
   rw [hd'] at ih'
   have h2 := Qxw N b (fun _ => bif l.all Qgm then k () else some false) (by omega) N 0 (by simp; omega)
   rw [show ((0 : Nat) : Int) = 0 from rfl, List.drop_zero] at h2
   simp only [show decide ((i : Int) < d.Hours.length) = true from by simpa using hlt, cond_true, Qd2 hg, Option.bind_some, Qcl, in_eq, e1, h2, ih', List.all_cons, Qgm, Qk5, if_true]
   cases btw b.Use 0 1000000000 <;> cases hlk : Qhl none b.Stairs <;> by_cases h6 : (b.Stairs.length : Int) ≤ 6 <;> simp [h6, Int.not_lt.2, Int.not_le.1] <;> omega
theorem dayR_eq {N : Nat} {d : GDay} (hf : FewP d) (hN : 2000 ≤ N) : Qe8 N d = some (dayB d) := by
 unfold Qe8 dayB
 simp only [Qcl, in_eq, Option.bind_some]
 have h1 := hf.1
 have := Qwi N d (fun _ => some true) hN hf N 0 (by simp; omega)
 rw [show ((0 : Nat) : Int) = 0 from rfl, List.drop_zero] at this
 rw [this]
 unfold btw
 by_cases h2 : (1 : Int) ≤ d.Hours.length <;> by_cases h3 : (d.Hours.length : Int) ≤ 24 <;> cases (decide (0 ≤ d.Tank) && decide (d.Tank ≤ 1000000000)) <;> cases (decide (0 ≤ d.Start) && decide (d.Start ≤ d.Tank)) <;> cases d.Hours.all Qgm <;> simp [h2, h3, Int.not_lt.2, Int.not_le.1] <;> omega
theorem Qyh (N : Nat) (d : GDay) (k : Unit → Option Bool) (hl : d.Hours.length ≤ 9223372036854775807) : ∀ (n i : Nat), (d.Hours.drop i).length < n →
  Qdv N d k n i = bif (d.Hours.drop i).all (fun h => decide ((h.Stairs.length : Int) ≤ 10)) then k () else some false := by
 intro n
 induction n with
 | zero => intro i h; exact absurd h (Nat.not_lt_zero _)
 | succ n ih =>
  intro i h
  rw [Qdv]
  cases hd : d.Hours.drop i with
  | nil =>
   have := Qfv hd
   simp [show ¬ ((i : Int) < d.Hours.length) from by omega]
  | cons b l =>
   obtain ⟨hg, hd', hlt⟩ := Qfa hd
   have e1 : w64 ((i : Int) + 1) = ((i + 1 : Nat) : Int) := Qc3 (by omega) (by omega)
   have ih' := ih (i + 1) (by rw [hd']; rw [hd] at h; simp at h; omega)
   rw [hd'] at ih'
   simp only [show decide ((i : Int) < d.Hours.length) = true from by simpa using hlt, cond_true, Qd2 hg, Option.bind_some, e1, ih', List.all_cons]
   by_cases hb : (b.Stairs.length : Int) ≤ 10
   ·simp [hb, show ¬ ((10 : Int) < b.Stairs.length) from by omega]
   ·simp [hb, show (10 : Int) < b.Stairs.length from by omega]
theorem few_eq {N : Nat} {d : GDay} (hl : d.Hours.length ≤ 9223372036854775807) (hN : d.Hours.length < N) : ∃ b, Qhm N d = some b ∧ (b = true → FewP d) := by
 refine ⟨d.Hours.all (fun h => decide ((h.Stairs.length : Int) ≤ 10)) && decide ((d.Hours.length : Int) ≤ 30), ?_, fun h => ?_⟩
 ·unfold Qhm
  simp only [Qcl]
  have := Qyh N d (fun _ => some (decide ((d.Hours.length : Int) ≤ 30))) hl N 0 (by simpa using hN)
  rw [show ((0 : Nat) : Int) = 0 from rfl, List.drop_zero] at this
  rw [this]
  cases d.Hours.all (fun h => decide ((h.Stairs.length : Int) ≤ 10)) <;> simp
 ·simp only [Bool.and_eq_true, List.all_eq_true, decide_eq_true_eq] at h
  exact ⟨by omega, fun x hx => by have := h.1 x hx; omega⟩
theorem Qtz (N : Nat) (h : GHour) (k : List GHour × List GStair → Option GDay) (q : List GHour) (hl : h.Stairs.length ≤ 1000) : ∀ (n i : Nat) (acc : List GStair), (h.Stairs.drop i).length < n → i ≤ h.Stairs.length → acc.length = i →
  Qdw N h k n i q acc = k (q, acc ++ h.Stairs.drop i) := by
 intro n
 induction n with
 | zero => intro i _ h; exact absurd h (Nat.not_lt_zero _)
 | succ n ih =>
  intro i acc hn hi hacc
  rw [Qdw]
  cases hd : h.Stairs.drop i with
  | nil =>
   have := Qfv hd
   simp [show ¬ ((i : Int) < h.Stairs.length) from by omega]
  | cons b l =>
   obtain ⟨hg, hd', hlt⟩ := Qfa hd
   have e1 : w64 ((i : Int) + 1) = ((i + 1 : Nat) : Int) := Qc3 (by omega) (by omega)
   simp only [show decide ((i : Int) < h.Stairs.length) = true from by simpa using hlt, cond_true, Qd2 hg, Option.bind_some, e1]
   rw [ih (i + 1) (acc ++ [b]) (by rw [hd']; rw [hd] at hn; simp at hn; omega) hlt (by simp [hacc]), hd']
   simp only [chk, show decide ((acc.length + [b].length) * 16 ≤ 140737488355328) = true from by simp; omega, cond_true, List.append_assoc, List.cons_append, List.nil_append]
theorem Qt0 (N : Nat) (d : GDay) (k : List GHour → Option GDay) (hN : 2000 ≤ N) (hf : FewP d) : ∀ (n i : Nat) (acc : List GHour), (d.Hours.drop i).length < n → i ≤ d.Hours.length → acc.length = i →
  Qdi N d k n i acc = k (acc ++ d.Hours.drop i) := by
 intro n
 induction n with
 | zero => intro i _ h; exact absurd h (Nat.not_lt_zero _)
 | succ n ih =>
  intro i acc h hi hacc
  have hf1 := hf.1
  rw [Qdi]
  cases hd : d.Hours.drop i with
  | nil =>
   have := Qfv hd
   simp [show ¬ ((i : Int) < d.Hours.length) from by omega]
  | cons b l =>
   obtain ⟨hg, hd', hlt⟩ := Qfa hd
   have hb10 := hf.2 b (List.mem_of_getElem? hg)
   have e1 : w64 ((i : Int) + 1) = ((i + 1 : Nat) : Int) := Qc3 (by omega) (by omega)
   simp only [show decide ((i : Int) < d.Hours.length) = true from by simpa using hlt, cond_true, Qd2 hg, Option.bind_some, e1, Qcl]
   have h2 := Qtz N b (fun x => match x with | (y15, y16) => chk (decide ((y15.length + ([(⟨b.Use, y16⟩ : GHour)]).length) * 32 ≤ 140737488355328)) (Qdi N d k n ((i + 1 : Nat) : Int) (y15 ++ ([(⟨b.Use, y16⟩ : GHour)])))) acc (by omega) N 0 [] (by simp; omega) (by omega) rfl
   rw [show ((0 : Nat) : Int) = 0 from rfl, List.drop_zero, List.nil_append] at h2
   rw [h2]
   dsimp only
   rw [ih (i + 1) (acc ++ [b]) (by rw [hd']; rw [hd] at h; simp at h; omega) hlt (by simp [hacc]), hd']
   simp only [chk, show decide ((acc.length + [(⟨b.Use, b.Stairs⟩ : GHour)].length) * 32 ≤ 140737488355328) = true from by simp; omega, cond_true, List.append_assoc, List.cons_append, List.nil_append]
theorem Qyz {N : Nat} {d : GDay} (hf : FewP d) (hN : 2000 ≤ N) : Qgp N d = some d := by
 unfold Qgp
 simp only [Qcl]
 have hf1 := hf.1
 have := Qt0 N d (fun y1 => some ⟨d.Tank, d.Start, y1⟩) hN hf N 0 [] (by simp; omega) (by omega) rfl
 simpa using this
structure HourP (h : GHour) : Prop where
 use : 0 ≤ h.Use ∧ h.Use ≤ 1000000000
 few : h.Stairs.length ≤ 6
 st : ∀ s ∈ h.Stairs, 1 ≤ s.Amount ∧ s.Amount ≤ 1000000000 ∧ 0 ≤ s.Price ∧ s.Price ≤ 1000
theorem Ql1 : ∀ (l : List GStair) (a : Option GStair), Qhl a l = true → ∀ s ∈ l, 1 ≤ s.Amount ∧ s.Amount ≤ 1000000000 ∧ 0 ≤ s.Price ∧ s.Price ≤ 1000
 | [], _, _ => fun _ h => by cases h
 | b :: l, a, h => by
  have hb : stB b = true ∧ Qhl (some b) l = true := by cases a <;> simp [Qhl] at h <;> simp [h]
  intro x hx
  rcases List.mem_cons.1 hx with rfl | hx
  ·have := hb.1
   simp only [stB, Bool.and_eq_true, Qkq] at this
   omega
  ·exact Ql1 l (some b) hb.2 x hx
theorem Qsm {h : GHour} (hb : Qgm h = true) : HourP h := by
 simp only [Qgm, Bool.and_eq_true, Qkq, decide_eq_true_eq] at hb
 exact ⟨hb.1.2, by omega, Ql1 _ _ hb.1.1⟩
def Qdr (l : List GStair) : Int := (l.map (·.Amount)).sum
theorem Qr6 : ∀ {l : List GStair}, (∀ s ∈ l, 1 ≤ s.Amount ∧ s.Amount ≤ 1000000000 ∧ 0 ≤ s.Price ∧ s.Price ≤ 1000) → 0 ≤ Qdr l ∧ Qdr l ≤ 1000000000 * l.length
 | [], _ => by simp [Qdr]
 | s :: l, h => by
  have h1 := h s (by simp)
  have h2 := Qr6 (l := l) fun x hx => h x (List.mem_cons_of_mem _ hx)
  unfold Qdr at h2 ⊢
  simp only [List.map_cons, List.sum_cons, List.length_cons]
  omega
theorem Qqv (N : Nat) (h : GHour) (k : Int → Option Int) (hp : HourP h) : ∀ (n i : Nat) (a : Int), (h.Stairs.drop i).length < n → 0 ≤ a → a ≤ 1000000000 * i → Qcr N h k n a i = k (a + Qdr (h.Stairs.drop i)) := by
 intro n
 induction n with
 | zero => intro i _ h; exact absurd h (Nat.not_lt_zero _)
 | succ n ih =>
  intro i a hn h0 h1
  have hf := hp.few
  rw [Qcr]
  cases hd : h.Stairs.drop i with
  | nil =>
   have := Qfv hd
   simp [show ¬ ((i : Int) < h.Stairs.length) from by omega, Qdr]
  | cons b l =>
   obtain ⟨hg, hd', hlt⟩ := Qfa hd
   have hb := hp.st b (List.mem_of_getElem? hg)
   have e1 : w64 ((i : Int) + 1) = ((i + 1 : Nat) : Int) := Qc3 (by omega) (by omega)
   simp only [show decide ((i : Int) < h.Stairs.length) = true from by simpa using hlt, cond_true, Qd2 hg, Option.bind_some, e1]
   rw [Qc3 (by omega) (by omega), ih (i + 1) _ (by rw [hd']; rw [hd] at hn; simp at hn; omega) (by omega) (by omega), hd']
   simp [Qdr, Int.add_assoc]
theorem Qu4 {N : Nat} {h : GHour} (hp : HourP h) (hN : 2000 ≤ N) : Qeu N h = some (Qdr h.Stairs) := by
 unfold Qeu
 simp only [Qcl]
 have hf := hp.few
 have := Qqv N h (fun y => some y) hp N 0 0 (by simp; omega) (Int.le_refl _) (by omega)
 rw [show ((0 : Nat) : Int) = 0 from rfl, List.drop_zero, Int.zero_add] at this
 exact this
end Go.Proofs.Ytgdepcgbjjgnfaa
