/-
  Plain laws on units, streams, towers, cycles and condensers. No conditions.
-/
import Derived.Test.YtlhakkkjgdbdpaaGreatX8
import Derived.Test.YtlhakkkjgdbdpaaGreatXo
namespace Go.Proofs.YtlhakkkjgdbdpaaGreat
open Go.RowKit
theorem Qcg {x : Int} (h : -9223372036854775808 ≤ x) (h' : x ≤ 9223372036854775807) : w64 x = x := by
 unfold w64
 rw [IntKind.wrap_i64]
 omega
theorem Qkq (a b : Int) : w64 (w64 a + b) = w64 (a + b) := by
 unfold w64
 rw [IntKind.wrap_i64, IntKind.wrap_i64, IntKind.wrap_i64]
 omega
theorem Qij {α : Type} {l : List α} {i : Nat} {x : α} (h : l[i]? = some x) : getI l (i : Int) = some x := by
 simp [getI, h]
def btw (a lo hi : Int) : Bool := decide (lo ≤ a) && decide (a ≤ hi)
theorem Qht {a lo hi : Int} : btw a lo hi = true ↔ lo ≤ a ∧ a ≤ hi := by simp [btw]
theorem Qk6 (N : Nat) (a lo hi : Int) : Qbb N a lo hi = some (btw a lo hi) := by
 unfold Qbb btw
 by_cases h : lo ≤ a <;> simp [h]
theorem Qm9 (N : Nat) (a lo hi : Int) : Qdb N a lo hi = some (btw a lo hi) := by
 unfold Qdb btw
 by_cases h : lo ≤ a <;> simp [h]
theorem Q1y (N : Nat) (a lo hi : Int) : Qdk N a lo hi = some (btw a lo hi) := by
 unfold Qdk btw
 by_cases h : lo ≤ a <;> simp [h]
theorem Qgi {α : Type} {t : List α} {i : Nat} {a : α} {l : List α} (h : t.drop i = a :: l) : t[i]? = some a ∧ t.drop (i + 1) = l ∧ i < t.length := by
 have hlt : i < t.length := by
  rcases Nat.lt_or_ge i t.length with h' | h'
  ·exact h'
  ·rw [List.drop_eq_nil_of_le h'] at h; cases h
 rw [List.drop_eq_getElem_cons hlt] at h
 simp only [List.cons.injEq] at h
 exact ⟨by rw [List.getElem?_eq_getElem hlt, h.1], h.2, hlt⟩
theorem Qhj {α : Type} {t : List α} {i : Nat} (h : t.drop i = []) : t.length ≤ i := List.drop_eq_nil_iff.1 h
theorem Q85 : Qfm 2000 = some true := by decide +kernel
def Qly : Int → List GPart → Bool
 | _, [] => true
 | last, p :: l => btw p.Gain 0 last && btw p.Width 1 100000 && Qly p.Gain l
def Qll (u : GUnit) : Bool := btw u.Inlet 0 5 && btw u.Parts.length 1 8 && Qly 1000 u.Parts
theorem Q4i (N : Nat) (p : GPart) (last : Int) : Qdr N p last = some (!(btw p.Gain 0 last && btw p.Width 1 100000)) := by
 unfold Qdr Qfh
 simp only [Qk6, Option.bind_some]
 cases btw p.Gain 0 last <;> simp
theorem Q1x (N : Nat) (t : List GPart) (last0 : Int) (hl : (t.length : Int) ≤ 9223372036854775807) : ∀ (n i : Nat) (last : Int), (t.drop i).length < n →
  ∃ x y : Int, Qa7 N t (fun y3 => some ((-1), y3)) n i last = some (x, y) ∧ (decide (x ≥ 0)) = !(Qly last (t.drop i)) := by
 intro n
 induction n with
 | zero => intro i last h; exact absurd h (Nat.not_lt_zero _)
 | succ n ih =>
  intro i last h
  rw [Qa7]
  cases hd : t.drop i with
  | nil =>
   have := Qhj hd
   exact ⟨-1, last, by simp [show ¬ ((i : Int) < t.length) from by omega], rfl⟩
  | cons p l =>
   obtain ⟨hi, hd', hlt⟩ := Qgi hd
   have e1 : w64 ((i : Int) + 1) = ((i + 1 : Nat) : Int) := Qcg (by omega) (by omega)
   simp only [show decide ((i : Int) < t.length) = true from by simpa using hlt, cond_true, Qij hi, Option.bind_some, Q4i, e1, Qly]
   cases hv : (btw p.Gain 0 last && btw p.Width 1 100000) with
   | false => exact ⟨i, p.Gain, by simp, by simp⟩
   | true =>
    have ih' := ih (i + 1) p.Gain (by rw [hd']; rw [hd] at h; simp at h; omega)
    rw [hd'] at ih'
    simpa using ih'
theorem Q4k {N : Nat} {u : GUnit} (hN : 100 ≤ N) : Qd6 N u = some (Qll u) := by
 unfold Qd6 Qll
 simp only [Qk6, Option.bind_some]
 cases h0 : btw u.Inlet 0 5 <;> simp only [cond_true, cond_false, Bool.false_and, Bool.true_and]
 cases h1 : btw u.Parts.length 1 8 <;> simp only [cond_true, cond_false, Bool.false_and, Bool.true_and]
 obtain ⟨h2, h3⟩ := Qht.1 h1
 unfold Qez Qcb Qcj
 obtain ⟨x, y, e1, e2⟩ := Q1x N u.Parts 1000 (by omega) N 0 1000 (by simp; omega)
 rw [show ((0 : Nat) : Int) = 0 from rfl] at e1
 rw [List.drop_zero] at e2
 simp only [Qck, e1, Option.bind_some, e2, Bool.not_not]
def Qm2 (t : List GPart) (i : Nat) : Int := if i = 0 then 1000 else (t[i - 1]?.map (·.Gain)).getD 0
theorem Q1t (N : Nat) (u : GUnit) (k : Unit → Option Bool) (hl : (u.Parts.length : Int) ≤ 9223372036854775807) : ∀ (n i : Nat), (u.Parts.drop i).length < n → Qm2 u.Parts i ≤ 1000 →
  Qdo N u k n i = bif Qly (Qm2 u.Parts i) (u.Parts.drop i) then k () else some false := by
 intro n
 induction n with
 | zero => intro i h; exact absurd h (Nat.not_lt_zero _)
 | succ n ih =>
  intro i h hlast
  rw [Qdo]
  cases hd : u.Parts.drop i with
  | nil =>
   have := Qhj hd
   simp [show ¬ ((i : Int) < u.Parts.length) from by omega, Qly]
  | cons p l =>
   obtain ⟨hi, hd', hlt⟩ := Qgi hd
   have e1 : w64 ((i : Int) + 1) = ((i + 1 : Nat) : Int) := Qcg (by omega) (by omega)
   have hnext : Qm2 u.Parts (i + 1) = p.Gain := by simp [Qm2, hi]
   simp only [show decide ((i : Int) < u.Parts.length) = true from by simpa using hlt, cond_true, Qij hi, Option.bind_some, Q1y, e1, Qly]
   cases hw : btw p.Width 1 100000
   ·simp
   ·cases hg : btw p.Gain 0 1000
    ·have : btw p.Gain 0 (Qm2 u.Parts i) = false := by
      cases hb : btw p.Gain 0 (Qm2 u.Parts i) with
      | false => rfl
      | true =>
       have := Qht.1 hb
       rw [Qht.2 (by omega)] at hg
       cases hg
     simp [this]
    ·have hg' := Qht.1 hg
     have ih' := ih (i + 1) (by rw [hd']; rw [hd] at h; simp at h; omega) (by rw [hnext]; omega)
     rw [hd', hnext] at ih'
     simp only [Bool.not_true, cond_false, ih', Bool.and_true]
     rcases Nat.eq_zero_or_pos i with rfl | hp
     ·simp [Qm2, hg]
     ·obtain ⟨a, ha⟩ : ∃ a, u.Parts[i - 1]? = some a := ⟨_, List.getElem?_eq_getElem (by omega)⟩
      have e2 : w64 ((i : Int) - 1) = ((i - 1 : Nat) : Int) := by rw [Qcg (by omega) (by omega)]; omega
      have e3 : Qm2 u.Parts i = a.Gain := by rw [Qm2, if_neg (by omega), ha]; rfl
      simp only [e2, Qij ha, Option.bind_some, show decide ((i : Int) > 0) = true from by simpa using hp, cond_true, e3]
      by_cases hga : p.Gain > a.Gain
      ·have : btw p.Gain 0 a.Gain = false := by
        cases hb : btw p.Gain 0 a.Gain with
        | false => rfl
        | true => have := Qht.1 hb; omega
       simp [hga, this]
      ·have : btw p.Gain 0 a.Gain = true := Qht.2 (by omega)
       simp [hga, this]
theorem Q7w {N : Nat} {u : GUnit} (hl : (u.Parts.length : Int) ≤ 9223372036854775807) (hN : u.Parts.length + 100 ≤ N) : Qi8 N u = some (Qll u) := by
 unfold Qi8 Qll
 simp only [Qck]
 have := Q1t N u (fun _ => (Qdk N u.Inlet 0 5).bind fun x3 => bif x3 then bif decide ((u.Parts.length : Int) ≥ 1) then some (decide ((u.Parts.length : Int) ≤ 8)) else some false else some false) hl N 0 (by simp; omega) (by simp [Qm2])
 rw [show ((0 : Nat) : Int) = 0 from rfl, List.drop_zero] at this
 rw [this, show Qm2 u.Parts 0 = 1000 from rfl]
 simp only [Q1y, Option.bind_some]
 unfold btw
 cases Qly 1000 u.Parts <;> by_cases h1 : (0 : Int) ≤ u.Inlet <;> by_cases h2 : u.Inlet ≤ 5 <;> by_cases h3 : (1 : Int) ≤ u.Parts.length <;> simp [h1, h2, h3]
theorem Qmn {u : GUnit} (h : Qll u = true) : (0 ≤ u.Inlet ∧ u.Inlet ≤ 5) ∧ (1 ≤ u.Parts.length ∧ u.Parts.length ≤ 8) ∧ Qly 1000 u.Parts = true := by
 unfold Qll at h
 simp only [Bool.and_eq_true, Qht] at h
 exact ⟨h.1.1, by omega, h.2⟩
theorem Q11 (N : Nat) (u : GUnit) (k : List GPart → Option GUnit) (hl : u.Parts.length ≤ 100) : ∀ (n i : Nat) (acc : List GPart), (u.Parts.drop i).length < n → acc.length = i →
  Qeh N u k n i acc = k (acc ++ u.Parts.drop i) := by
 intro n
 induction n with
 | zero => intro i _ h; exact absurd h (Nat.not_lt_zero _)
 | succ n ih =>
  intro i acc h hacc
  rw [Qeh]
  cases hd : u.Parts.drop i with
  | nil =>
   have := Qhj hd
   simp [show ¬ ((i : Int) < u.Parts.length) from by omega]
  | cons b l =>
   obtain ⟨hg, hd', hlt⟩ := Qgi hd
   have e1 : w64 ((i : Int) + 1) = ((i + 1 : Nat) : Int) := Qcg (by omega) (by omega)
   simp only [show decide ((i : Int) < u.Parts.length) = true from by simpa using hlt, cond_true, Qij hg, Option.bind_some, e1]
   rw [ih (i + 1) (acc ++ [b]) (by rw [hd']; rw [hd] at h; simp at h; omega) (by simp [hacc]), hd']
   simp only [chk, show decide ((acc.length + [b].length) * 16 ≤ 140737488355328) = true from by simp; omega, cond_true, List.append_assoc, List.cons_append, List.nil_append]
theorem Q8u {N : Nat} {u : GUnit} (hl : u.Parts.length ≤ 100) (hN : 200 ≤ N) : Qkg N u = some u := by
 unfold Qkg
 simp only [Qck]
 have := Q11 N u (fun y1 => some ⟨u.Inlet, y1⟩) hl N 0 [] (by simp; omega) rfl
 simpa using this
def capI : List GPart → Int
 | [] => 0
 | p :: l => p.Width + capI l
def powI : List GPart → Int → Int
 | [], _ => 0
 | p :: l, m => min m p.Width * p.Gain + powI l (m - min m p.Width)
theorem Qyz : ∀ (l : List GPart) (last : Int), Qly last l = true → 0 ≤ capI l ∧ capI l ≤ 100000 * l.length
 | [], _, _ => ⟨Int.le_refl _, by simp [capI]⟩
 | p :: l, last, h => by
  simp only [Qly, Bool.and_eq_true, Qht] at h
  have := Qyz l _ h.2
  simp only [capI, List.length_cons]
  omega
theorem Qym {x g : Int} (x0 : 0 ≤ x) (x1 : x ≤ 100000) (g0 : 0 ≤ g) (g1 : g ≤ 1000) : 0 ≤ x * g ∧ x * g ≤ 100000000 :=
 ⟨Int.mul_nonneg x0 g0, Int.le_trans (Int.mul_le_mul_of_nonneg_left g1 x0) (by omega)⟩
theorem Qug : ∀ (l : List GPart) (last m : Int), Qly last l = true → last ≤ 1000 → 0 ≤ m → 0 ≤ powI l m ∧ powI l m ≤ 100000000 * l.length
 | [], _, _, _, _, _ => ⟨Int.le_refl _, by simp [powI]⟩
 | p :: l, last, m, h, h1, h2 => by
  simp only [Qly, Bool.and_eq_true, Qht] at h
  obtain ⟨⟨h3, h4⟩, h5⟩ := h
  have ih := Qug l p.Gain (m - min m p.Width) h5 (by omega) (by omega)
  have := Qym (x := min m p.Width) (g := p.Gain) (by omega) (by omega) (by omega) (by omega)
  simp only [powI, List.length_cons]
  omega
theorem Q56 (N : Nat) (u : GUnit) (k : Int → Option Int) (hl : u.Parts.length ≤ 1000) : ∀ (n i : Nat) (a : Int), (u.Parts.drop i).length < n →
  Qco N u k n (w64 a) i = k (w64 (a + capI (u.Parts.drop i))) := by
 intro n
 induction n with
 | zero => intro i _ h; exact absurd h (Nat.not_lt_zero _)
 | succ n ih =>
  intro i a h
  rw [Qco]
  cases hd : u.Parts.drop i with
  | nil =>
   have := Qhj hd
   simp [show ¬ ((i : Int) < u.Parts.length) from by omega, capI]
  | cons b l =>
   obtain ⟨hg, hd', hlt⟩ := Qgi hd
   have e1 : w64 ((i : Int) + 1) = ((i + 1 : Nat) : Int) := Qcg (by omega) (by omega)
   simp only [show decide ((i : Int) < u.Parts.length) = true from by simpa using hlt, cond_true, Qij hg, Option.bind_some, e1, Qkq]
   rw [ih (i + 1) (a + b.Width) (by rw [hd']; rw [hd] at h; simp at h; omega), hd', capI, Int.add_assoc]
theorem Q55 (N : Nat) (u : GUnit) (k : Int → Option Int) (hl : u.Parts.length ≤ 1000) : ∀ (n i : Nat) (a : Int), (u.Parts.drop i).length < n →
  Qdf N u k n (w64 a) i = k (w64 (a + capI (u.Parts.drop i))) := by
 intro n
 induction n with
 | zero => intro i _ h; exact absurd h (Nat.not_lt_zero _)
 | succ n ih =>
  intro i a h
  rw [Qdf]
  cases hd : u.Parts.drop i with
  | nil =>
   have := Qhj hd
   simp [show ¬ ((i : Int) < u.Parts.length) from by omega, capI]
  | cons b l =>
   obtain ⟨hg, hd', hlt⟩ := Qgi hd
   have e1 : w64 ((i : Int) + 1) = ((i + 1 : Nat) : Int) := Qcg (by omega) (by omega)
   simp only [show decide ((i : Int) < u.Parts.length) = true from by simpa using hlt, cond_true, Qij hg, Option.bind_some, e1, Qkq]
   rw [ih (i + 1) (a + b.Width) (by rw [hd']; rw [hd] at h; simp at h; omega), hd', capI, Int.add_assoc]
theorem Qqs : w64 0 = 0 := by decide
theorem Ze8 {N : Nat} {u : GUnit} (h : Qll u = true) (hN : 100 ≤ N) : Qec N u = some (capI u.Parts) := by
 obtain ⟨_, h1, h2⟩ := Qmn h
 have hb := Qyz _ _ h2
 unfold Qec
 simp only [Qck]
 have := Q56 N u (fun y1 => some y1) (by omega) N 0 0 (by simp; omega)
 rw [show ((0 : Nat) : Int) = 0 from rfl, List.drop_zero, Qqs, Int.zero_add, Qcg (by omega) (by omega)] at this
 exact this
theorem Ze7 {N : Nat} {u : GUnit} (h : Qll u = true) (hN : 100 ≤ N) : Qgu N u = some (capI u.Parts) := by
 obtain ⟨_, h1, h2⟩ := Qmn h
 have hb := Qyz _ _ h2
 unfold Qgu
 simp only [Qck]
 have := Q55 N u (fun y1 => some y1) (by omega) N 0 0 (by simp; omega)
 rw [show ((0 : Nat) : Int) = 0 from rfl, List.drop_zero, Qqs, Int.zero_add, Qcg (by omega) (by omega)] at this
 exact this
def Q1n : List GPart → Int → List (GPart × Int)
 | [], _ => []
 | p :: l, m => (p, min m p.Width) :: Q1n l (m - min m p.Width)
theorem Q4j (N : Nat) (t : List GPart) (hl : t.length ≤ 1000) (hf : ∀ p ∈ t, 1 ≤ p.Width ∧ p.Width ≤ 100000) : ∀ (n i : Nat) (m : Int), (t.drop i).length < n → 0 ≤ m → m ≤ 9223372036854775807 →
  Qc1 N t n i m = some (Q1n (t.drop i) m) := by
 intro n
 induction n with
 | zero => intro i _ h; exact absurd h (Nat.not_lt_zero _)
 | succ n ih =>
  intro i m h h0 h1
  rw [Qc1]
  cases hd : t.drop i with
  | nil =>
   have := Qhj hd
   simp [show ¬ ((i : Int) < t.length) from by omega, Q1n]
  | cons b l =>
   obtain ⟨hg, hd', hlt⟩ := Qgi hd
   obtain ⟨w0, w1⟩ := hf b (List.mem_of_getElem? hg)
   have e1 : w64 ((i : Int) + 1) = ((i + 1 : Nat) : Int) := Qcg (by omega) (by omega)
   have e2 : (if b.Width < m then b.Width else m) = min m b.Width := by split <;> omega
   have e3 : w64 (m - min m b.Width) = m - min m b.Width := Qcg (by omega) (by omega)
   simp only [show decide ((i : Int) < t.length) = true from by simpa using hlt, cond_true, Qij hg, Option.bind_some, e1, e2, e3]
   rw [ih (i + 1) _ (by rw [hd']; rw [hd] at h; simp at h; omega) (by omega) (by omega), hd']
   rfl
theorem Q0r : ∀ (l : List GPart) (last : Int), Qly last l = true → last ≤ 1000 → ∀ p ∈ l, (1 ≤ p.Width ∧ p.Width ≤ 100000) ∧ 0 ≤ p.Gain ∧ p.Gain ≤ last
 | [], _, _, _, p, hp => by cases hp
 | q :: l, last, h, h1, p, hp => by
  simp only [Qly, Bool.and_eq_true, Qht] at h
  rcases List.mem_cons.1 hp with rfl | hp
  ·exact ⟨h.1.2, h.1.1⟩
  ·have := Q0r l q.Gain h.2 (by omega) p hp
   exact ⟨this.1, by omega⟩
theorem Qwb (N : Nat) (k : Int → Option Int) : ∀ (l : List GPart) (last m a : Int), Qly last l = true → last ≤ 1000 → 0 ≤ m →
  Qcm N k (Q1n l m) (w64 a) = k (w64 (a + powI l m))
 | [], _, _, _, _, _, _ => by simp [Q1n, Qcm, powI]
 | p :: l, last, m, a, h, h1, h2 => by
  simp only [Qly, Bool.and_eq_true, Qht] at h
  obtain ⟨⟨h3, h4⟩, h5⟩ := h
  rw [Q1n, Qcm]
  dsimp only
  have := Qym (x := min m p.Width) (g := p.Gain) (by omega) (by omega) (by omega) (by omega)
  rw [Int.mul_comm, Qcg (show -9223372036854775808 ≤ min m p.Width * p.Gain by omega) (by omega), Qkq, Qwb N k l p.Gain _ _ h5 (by omega) (by omega), powI, Int.add_assoc]
theorem Zc1 {N : Nat} {u : GUnit} {m : Int} (h : Qll u = true) (hN : 100 ≤ N) (h0 : 0 ≤ m) (hm : m ≤ 9223372036854775807) : Qeg N u m = some (powI u.Parts m) := by
 obtain ⟨_, h1, h2⟩ := Qmn h
 have hb := Qug _ _ m h2 (Int.le_refl _) h0
 have hu := Q4j N u.Parts (by omega) (fun p hp => (Q0r _ _ h2 (Int.le_refl _) p hp).1) N 0 m (by simp; omega) h0 hm
 rw [show ((0 : Nat) : Int) = 0 from rfl, List.drop_zero] at hu
 have hr := Qwb N (fun y1 => some y1) u.Parts 1000 m 0 h2 (Int.le_refl _) h0
 rw [Qqs, Int.zero_add, Qcg (by omega) (by omega)] at hr
 unfold Qeg
 simp only [Qck, Qgq, Qgp, Option.bind_some, hu, hr]
theorem Q4w (N : Nat) (u : GUnit) (k : Int → Option Int) (hl : u.Parts.length ≤ 1000) : ∀ (n i : Nat) (last m a : Int), (u.Parts.drop i).length < n → Qly last (u.Parts.drop i) = true → last ≤ 1000 → 0 ≤ m → m ≤ 9223372036854775807 →
  Qd9 N u k n m (w64 a) i = k (w64 (a + powI (u.Parts.drop i) m)) := by
 intro n
 induction n with
 | zero => intro i _ _ _ h; exact absurd h (Nat.not_lt_zero _)
 | succ n ih =>
  intro i last m a h hf hla h0 h1
  rw [Qd9]
  cases hd : u.Parts.drop i with
  | nil =>
   have := Qhj hd
   simp [show ¬ ((i : Int) < u.Parts.length) from by omega, powI]
  | cons p l =>
   obtain ⟨hg, hd', hlt⟩ := Qgi hd
   rw [hd] at hf
   simp only [Qly, Bool.and_eq_true, Qht] at hf
   obtain ⟨⟨h3, h4⟩, h5⟩ := hf
   have e1 : w64 ((i : Int) + 1) = ((i + 1 : Nat) : Int) := Qcg (by omega) (by omega)
   have e2 : (if p.Width < m then p.Width else m) = min m p.Width := by split <;> omega
   have e3 : w64 (m - min m p.Width) = m - min m p.Width := Qcg (by omega) (by omega)
   have := Qym (x := min m p.Width) (g := p.Gain) (by omega) (by omega) (by omega) (by omega)
   have e4 : w64 (min m p.Width * p.Gain) = min m p.Width * p.Gain := Qcg (by omega) (by omega)
   simp only [show decide ((i : Int) < u.Parts.length) = true from by simpa using hlt, cond_true, Qij hg, Option.bind_some, e1, e2, e3, e4, Qkq]
   rw [ih (i + 1) p.Gain _ _ (by rw [hd']; rw [hd] at h; simp at h; omega) (by rw [hd']; exact h5) (by omega) (by omega) (by omega), hd', powI, Int.add_assoc]
theorem Zc0 {N : Nat} {u : GUnit} {m : Int} (h : Qll u = true) (hN : 100 ≤ N) (h0 : 0 ≤ m) (hm : m ≤ 9223372036854775807) : Qi9 N u m = some (powI u.Parts m) := by
 obtain ⟨_, h1, h2⟩ := Qmn h
 have hb := Qug _ _ m h2 (Int.le_refl _) h0
 unfold Qi9
 simp only [Qck]
 have := Q4w N u (fun y1 => some y1) (by omega) N 0 1000 m 0 (by simp; omega) (by simpa using h2) (Int.le_refl _) h0 hm
 rw [show ((0 : Nat) : Int) = 0 from rfl, List.drop_zero, Qqs, Int.zero_add, Qcg (by omega) (by omega)] at this
 exact this
def strB (s : GStream) : Bool := btw s.Mass 0 1000000 && btw s.Heat 0 (4000 * s.Mass) && btw s.Silica 0 (10000 * s.Mass) && btw s.Gas 0 1000000000
theorem Qt4 (N : Nat) (s : GStream) : Qdv N s = some (strB s) := by
 unfold Qdv strB
 simp only [Qm9, Option.bind_some]
 cases h : btw s.Mass 0 1000000 with
 | false => rfl
 | true =>
  obtain ⟨h1, h2⟩ := Qht.1 h
  rw [Qcg (show -9223372036854775808 ≤ 4000 * s.Mass by omega) (by omega), Qcg (show -9223372036854775808 ≤ 10000 * s.Mass by omega) (by omega)]
  cases btw s.Heat 0 (4000 * s.Mass) <;> cases btw s.Silica 0 (10000 * s.Mass) <;> simp
theorem Q4q (N : Nat) (s : GStream) : Qeu N s = some (strB s) := by
 unfold Qeu strB
 simp only [Q1y, Option.bind_some]
 cases h : btw s.Mass 0 1000000 with
 | false => rfl
 | true =>
  obtain ⟨h1, h2⟩ := Qht.1 h
  rw [Qcg (show -9223372036854775808 ≤ 4000 * s.Mass by omega) (by omega), Qcg (show -9223372036854775808 ≤ 10000 * s.Mass by omega) (by omega)]
  cases btw s.Heat 0 (4000 * s.Mass) <;> cases btw s.Silica 0 (10000 * s.Mass) <;> simp
theorem Qow {s : GStream} : strB s = true ↔ (0 ≤ s.Mass ∧ s.Mass ≤ 1000000) ∧ (0 ≤ s.Heat ∧ s.Heat ≤ 4000 * s.Mass) ∧ (0 ≤ s.Silica ∧ s.Silica ≤ 10000 * s.Mass) ∧ 0 ≤ s.Gas ∧ s.Gas ≤ 1000000000 := by
 simp [strB, Qht, and_assoc]
theorem Q8v (N : Nat) (s : GStream) : Qfe N s = some (bif strB s then 0 else 1) := by
 unfold Qfe
 rw [Qt4]
 cases strB s <;> rfl
theorem Q03 (N : Nat) (s : GStream) : Qdg N s = some (!strB s) := by
 unfold Qdg Qiy
 rw [Q8v]
 cases strB s <;> rfl
theorem Qpu {N : Nat} (hN : 10 ≤ N) (s : GStream) : Qem N [s] = some (strB s) := by
 obtain ⟨n, rfl⟩ : ∃ n, N = n + 2 := ⟨N - 2, by omega⟩
 unfold Qem Qdq Qbn Qbt
 simp only [Qck, Qa2, Q03, getI, Option.bind_some, show w64 (0 + 1) = 1 from by decide]
 cases h : strB s <;> simp [h]
theorem Qs4 {N : Nat} (hN : 10 ≤ N) (s t : GStream) : Qem N [s, t] = some (strB s && strB t) := by
 obtain ⟨n, rfl⟩ : ∃ n, N = n + 3 := ⟨N - 3, by omega⟩
 unfold Qem Qdq Qbn Qbt
 simp only [Qck, Qa2, Q03, getI, Option.bind_some, show w64 (0 + 1) = 1 from by decide, show w64 (1 + 1) = 2 from by decide]
 cases h : strB s <;> cases h' : strB t <;> simp [h, h']
theorem Q7o (N : Nat) (hN : 10 ≤ N) (s : GStream) (t : Int) : Qhv N s t = some (bif strB s then (bif btw t 0 4000 then (⟨s.Mass, w64 (s.Heat - (if w64 (s.Heat - w64 (t * s.Mass)) > 0 then w64 (s.Heat - w64 (t * s.Mass)) else 0)), s.Silica, s.Gas⟩, (if w64 (s.Heat - w64 (t * s.Mass)) > 0 then w64 (s.Heat - w64 (t * s.Mass)) else 0), 0) else (⟨0, 0, 0, 0⟩, 0, 2)) else (⟨0, 0, 0, 0⟩, 0, 1)) := by
 unfold Qhv
 simp only [Qpu hN, Option.bind_some, Qk6]
 cases strB s <;> cases btw t 0 4000 <;> rfl
def cycB (c : GCycle) : Bool := btw c.Out 0 4000 && btw c.Yield 0 1000 && btw c.Most 0 4000000000
theorem Q52 (N : Nat) (c : GCycle) : Qev N c = some (cycB c) := by
 unfold Qev cycB
 simp only [Qk6, Option.bind_some]
 cases btw c.Out 0 4000 <;> cases btw c.Yield 0 1000 <;> simp
theorem Ze2 (N : Nat) (c : GCycle) : Qf1 N c = some (cycB c) := by
 unfold Qf1 cycB
 simp only [Q1y, Option.bind_some]
 cases btw c.Out 0 4000 <;> cases btw c.Yield 0 1000 <;> simp
theorem Qyy {N : Nat} (hN : 10 ≤ N) (s t : GStream) : Qhd N [s, t] = some (bif strB s && strB t then 0 else 1) := by
 obtain ⟨n, rfl⟩ : ∃ n, N = n + 3 := ⟨N - 3, by omega⟩
 unfold Qhd Qej Qb2 Qca
 simp only [Qck, Qa9, Qd8, Qt4, getI, Option.bind_some, show w64 (0 + 1) = 1 from by decide, show w64 (1 + 1) = 2 from by decide]
 cases h : strB s <;> cases h' : strB t <;> simp [h, h']
def sumS (s t : GStream) : GStream := ⟨s.Mass + t.Mass, s.Heat + t.Heat, s.Silica + t.Silica, s.Gas + t.Gas⟩
theorem Zad {s t : GStream} (hs : strB s = true) (ht : strB t = true) : w64 (s.Mass + t.Mass) = s.Mass + t.Mass ∧ w64 (s.Heat + t.Heat) = s.Heat + t.Heat ∧ w64 (s.Silica + t.Silica) = s.Silica + t.Silica ∧ w64 (s.Gas + t.Gas) = s.Gas + t.Gas := by
 have h1 := Qow.1 hs
 have h2 := Qow.1 ht
 exact ⟨Qcg (by omega) (by omega), Qcg (by omega) (by omega), Qcg (by omega) (by omega), Qcg (by omega) (by omega)⟩
theorem Zab {s : GStream} (hs : strB s = true) : w64 s.Mass = s.Mass ∧ w64 s.Heat = s.Heat ∧ w64 s.Silica = s.Silica ∧ w64 s.Gas = s.Gas := by
 have h1 := Qow.1 hs
 exact ⟨Qcg (by omega) (by omega), Qcg (by omega) (by omega), Qcg (by omega) (by omega), Qcg (by omega) (by omega)⟩
theorem Q7s {N : Nat} (hN : 10 ≤ N) {s t : GStream} (hs : strB s = true) (ht : strB t = true) : Qk7 N [s, t] = some (sumS s t) := by
 obtain ⟨n, rfl⟩ : ∃ n, N = n + 3 := ⟨N - 3, by omega⟩
 obtain ⟨a1, a2, a3, a4⟩ := Zad hs ht
 obtain ⟨b1, b2, b3, b4⟩ := Zab hs
 unfold Qk7
 simp [Qck, Qfa, Qiw, Qcq, getI, show w64 1 = 1 from by decide, show w64 2 = 2 from by decide, b1, b2, b3, b4, a1, a2, a3, a4, sumS]
theorem Q7r {N : Nat} (hN : 10 ≤ N) {s t : GStream} (hs : strB s = true) (ht : strB t = true) : Qlc N [s, t] = some (sumS s t) := by
 obtain ⟨n, rfl⟩ : ∃ n, N = n + 3 := ⟨N - 3, by omega⟩
 obtain ⟨a1, a2, a3, a4⟩ := Zad hs ht
 obtain ⟨b1, b2, b3, b4⟩ := Zab hs
 unfold Qlc
 simp [Qck, Qfb, getI, show w64 1 = 1 from by decide, show w64 2 = 2 from by decide, b1, b2, b3, b4, a1, a2, a3, a4, sumS]
def Qn7 : GStream := ⟨0, 0, 0, 0⟩
def expI (u : GUnit) (s : GStream) : GStream × Int × Int :=
 if s.Mass > capI u.Parts then (Qn7, 0, 2) else if s.Heat < powI u.Parts s.Mass then (Qn7, 0, 9) else (⟨s.Mass, w64 (s.Heat - powI u.Parts s.Mass), s.Silica, s.Gas⟩, powI u.Parts s.Mass, 0)
theorem Zdd {N : Nat} (hN : 100 ≤ N) (u : GUnit) (s : GStream) : Qii N u s = some (bif Qll u && strB s then expI u s else (Qn7, 0, 1)) := by
 unfold Qii
 simp only [Qck, Q4k hN, Option.bind_some, Qpu (show 10 ≤ N by omega)]
 cases h : Qll u with
 | false => rfl
 | true =>
  cases h' : strB s with
  | false => rfl
  | true =>
   have hs := Qow.1 h'
   simp only [Bool.not_true, cond_false, Ze8 h hN, Option.bind_some, Zc1 h hN hs.1.1 (by omega), Bool.and_self, cond_true, expI]
   by_cases h1 : s.Mass > capI u.Parts
   ·simp [h1, Qn7]
   ·by_cases h2 : s.Heat < powI u.Parts s.Mass <;> simp [h1, h2, Qn7]
theorem Zdc {N : Nat} (hN : 100 ≤ N) {u : GUnit} {s : GStream} (h : Qll u = true) (h' : strB s = true) : Qh7 N u s = some (expI u s) := by
 have hs := Qow.1 h'
 unfold Qh7
 simp only [Ze7 h hN, Option.bind_some, Zc0 h hN hs.1.1 (show s.Mass ≤ 9223372036854775807 by omega), expI]
 by_cases h1 : s.Mass > capI u.Parts
 ·simp [h1, Qn7]
 ·by_cases h2 : s.Heat < powI u.Parts s.Mass <;> simp [h1, h2, Qn7]
def conI (s t : GStream) (m : Int) : GStream × Int × Int :=
 if (sumS s t).Mass > 1000000 then (Qn7, 0, 3) else if (sumS s t).Gas > 1000000000 then (Qn7, 0, 3) else if (sumS s t).Gas > m then (Qn7, 0, 11) else (⟨(sumS s t).Mass, (sumS s t).Heat, (sumS s t).Silica, 0⟩, (sumS s t).Gas, 0)
theorem Ze4 {N : Nat} (hN : 100 ≤ N) (s t : GStream) (m : Int) : Qg1 N s t m = some (bif strB s && strB t then (bif btw m 0 1000000000 then conI s t m else (Qn7, 0, 2)) else (Qn7, 0, 1)) := by
 unfold Qg1 Qnc
 simp only [Qs4 (show 10 ≤ N by omega), Option.bind_some, Qk6, Qyy (show 10 ≤ N by omega)]
 cases h : strB s <;> cases h' : strB t <;> simp only [Bool.and_true, Bool.and_false, Bool.not_true, Bool.not_false, cond_true, cond_false, Qn7]
 cases h2 : btw m 0 1000000000 <;> simp only [Bool.not_true, Bool.not_false, cond_true, cond_false]
 simp only [Q7s (show 10 ≤ N by omega) h h', Option.bind_some, conI, Qn7]
 by_cases h3 : (sumS s t).Mass > 1000000
 ·simp [h3]
 ·by_cases h4 : (sumS s t).Gas > 1000000000
  ·simp [h3, h4]
  ·by_cases h5 : (sumS s t).Gas > m <;> simp [h3, h4, h5]
theorem Ze3 {N : Nat} (hN : 100 ≤ N) {s t : GStream} (m : Int) (h : strB s = true) (h' : strB t = true) : Qgt N s t m = some (conI s t m) := by
 unfold Qgt
 simp only [Q7r (show 10 ≤ N by omega) h h', Option.bind_some, conI, Qn7, Qck]
 by_cases h3 : (sumS s t).Mass > 1000000
 ·simp [h3]
 ·by_cases h4 : (sumS s t).Gas > 1000000000
  ·simp [h3, h4]
  ·by_cases h5 : (sumS s t).Gas > m <;> simp [h3, h4, h5]
end Go.Proofs.YtlhakkkjgdbdpaaGreat
