/-
  Plain laws on units, streams, towers, cycles and condensers. No conditions.
-/
import Derived.Test.YtlhakkkjgdbdpaaGreatX8
import Derived.Test.YtlhakkkjgdbdpaaGreatXo
namespace Go.Proofs.YtlhakkkjgdbdpaaGreat
open Go.RowKit
theorem Qca {x : Int} (h : -9223372036854775808 ≤ x) (h' : x ≤ 9223372036854775807) : w64 x = x := by
 unfold w64
 rw [IntKind.wrap_i64]
 omega
theorem Qps (a b : Int) : w64 (w64 a + b) = w64 (a + b) := by
 unfold w64
 rw [IntKind.wrap_i64, IntKind.wrap_i64, IntKind.wrap_i64]
 omega
theorem Qjg {α : Type} {l : List α} {i : Nat} {x : α} (h : l[i]? = some x) : getI l (i : Int) = some x := by
 simp [getI, h]
def btw (a lo hi : Int) : Bool := decide (lo ≤ a) && decide (a ≤ hi)
theorem Qgv {a lo hi : Int} : btw a lo hi = true ↔ lo ≤ a ∧ a ≤ hi := by simp [btw]
theorem Qkn (N : Nat) (a lo hi : Int) : Qbb N a lo hi = some (btw a lo hi) := by
 unfold Qbb btw
 by_cases h : lo ≤ a <;> simp [h]
theorem Qmq (N : Nat) (a lo hi : Int) : Qda N a lo hi = some (btw a lo hi) := by
 unfold Qda btw
 by_cases h : lo ≤ a <;> simp [h]
theorem Q0o (N : Nat) (a lo hi : Int) : Qdk N a lo hi = some (btw a lo hi) := by
 unfold Qdk btw
 by_cases h : lo ≤ a <;> simp [h]
theorem Qha {α : Type} {t : List α} {i : Nat} {a : α} {l : List α} (h : t.drop i = a :: l) : t[i]? = some a ∧ t.drop (i + 1) = l ∧ i < t.length := by
 have hlt : i < t.length := by
  rcases Nat.lt_or_ge i t.length with h' | h'
  ·exact h'
  ·rw [List.drop_eq_nil_of_le h'] at h; cases h
 rw [List.drop_eq_getElem_cons hlt] at h
 simp only [List.cons.injEq] at h
 exact ⟨by rw [List.getElem?_eq_getElem hlt, h.1], h.2, hlt⟩
theorem Qir {α : Type} {t : List α} {i : Nat} (h : t.drop i = []) : t.length ≤ i := List.drop_eq_nil_iff.1 h
theorem Q7m : Qeq 2000 = some true := by decide +kernel
def Qmi : Int → List GPart → Bool
 | _, [] => true
 | last, p :: l => btw p.Gain 0 last && btw p.Width 1 100000 && Qmi p.Gain l
def Qng (u : GUnit) : Bool := btw u.Inlet 0 5 && btw u.Parts.length 1 8 && Qmi 1000 u.Parts
theorem Q21 (N : Nat) (p : GPart) (last : Int) : Qdr N p last = some (!(btw p.Gain 0 last && btw p.Width 1 100000)) := by
 unfold Qdr Qfh
 simp only [Qkn, Option.bind_some]
 cases btw p.Gain 0 last <;> simp
theorem Q0n (N : Nat) (t : List GPart) (last0 : Int) (hl : (t.length : Int) ≤ 9223372036854775807) : ∀ (n i : Nat) (last : Int), (t.drop i).length < n →
  ∃ x y : Int, Qa5 N t (fun y3 => some ((-1), y3)) n i last = some (x, y) ∧ (decide (x ≥ 0)) = !(Qmi last (t.drop i)) := by
 intro n
 induction n with
 | zero => intro i last h; exact absurd h (Nat.not_lt_zero _)
 | succ n ih =>
  intro i last h
  rw [Qa5]
  cases hd : t.drop i with
  | nil =>
   have := Qir hd
   exact ⟨-1, last, by simp [show ¬ ((i : Int) < t.length) from by omega], rfl⟩
  | cons p l =>
   obtain ⟨hi, hd', hlt⟩ := Qha hd
   have e1 : w64 ((i : Int) + 1) = ((i + 1 : Nat) : Int) := Qca (by omega) (by omega)
   simp only [show decide ((i : Int) < t.length) = true from by simpa using hlt, cond_true, Qjg hi, Option.bind_some, Q21, e1, Qmi]
   cases hv : (btw p.Gain 0 last && btw p.Width 1 100000) with
   | false => exact ⟨i, p.Gain, by simp, by simp⟩
   | true =>
    have ih' := ih (i + 1) p.Gain (by rw [hd']; rw [hd] at h; simp at h; omega)
    rw [hd'] at ih'
    simpa using ih'
theorem Q23 {N : Nat} {u : GUnit} (hN : 100 ≤ N) : Qd6 N u = some (Qng u) := by
 unfold Qd6 Qng
 simp only [Qkn, Option.bind_some]
 cases h0 : btw u.Inlet 0 5 <;> simp only [cond_true, cond_false, Bool.false_and, Bool.true_and]
 cases h1 : btw u.Parts.length 1 8 <;> simp only [cond_true, cond_false, Bool.false_and, Bool.true_and]
 obtain ⟨h2, h3⟩ := Qgv.1 h1
 unfold Qe0 Qcc Qch
 obtain ⟨x, y, e1, e2⟩ := Q0n N u.Parts 1000 (by omega) N 0 1000 (by simp; omega)
 rw [show ((0 : Nat) : Int) = 0 from rfl] at e1
 rw [List.drop_zero] at e2
 simp only [Qc5, e1, Option.bind_some, e2, Bool.not_not]
def Qmh (t : List GPart) (i : Nat) : Int := if i = 0 then 1000 else (t[i - 1]?.map (·.Gain)).getD 0
theorem Q0j (N : Nat) (u : GUnit) (k : Unit → Option Bool) (hl : (u.Parts.length : Int) ≤ 9223372036854775807) : ∀ (n i : Nat), (u.Parts.drop i).length < n → Qmh u.Parts i ≤ 1000 →
  Qdo N u k n i = bif Qmi (Qmh u.Parts i) (u.Parts.drop i) then k () else some false := by
 intro n
 induction n with
 | zero => intro i h; exact absurd h (Nat.not_lt_zero _)
 | succ n ih =>
  intro i h hlast
  rw [Qdo]
  cases hd : u.Parts.drop i with
  | nil =>
   have := Qir hd
   simp [show ¬ ((i : Int) < u.Parts.length) from by omega, Qmi]
  | cons p l =>
   obtain ⟨hi, hd', hlt⟩ := Qha hd
   have e1 : w64 ((i : Int) + 1) = ((i + 1 : Nat) : Int) := Qca (by omega) (by omega)
   have hnext : Qmh u.Parts (i + 1) = p.Gain := by simp [Qmh, hi]
   simp only [show decide ((i : Int) < u.Parts.length) = true from by simpa using hlt, cond_true, Qjg hi, Option.bind_some, Q0o, e1, Qmi]
   cases hw : btw p.Width 1 100000
   ·simp
   ·cases hg : btw p.Gain 0 1000
    ·have : btw p.Gain 0 (Qmh u.Parts i) = false := by
      cases hb : btw p.Gain 0 (Qmh u.Parts i) with
      | false => rfl
      | true =>
       have := Qgv.1 hb
       rw [Qgv.2 (by omega)] at hg
       cases hg
     simp [this]
    ·have hg' := Qgv.1 hg
     have ih' := ih (i + 1) (by rw [hd']; rw [hd] at h; simp at h; omega) (by rw [hnext]; omega)
     rw [hd', hnext] at ih'
     simp only [Bool.not_true, cond_false, ih', Bool.and_true]
     rcases Nat.eq_zero_or_pos i with rfl | hp
     ·simp [Qmh, hg]
     ·obtain ⟨a, ha⟩ : ∃ a, u.Parts[i - 1]? = some a := ⟨_, List.getElem?_eq_getElem (by omega)⟩
      have e2 : w64 ((i : Int) - 1) = ((i - 1 : Nat) : Int) := by rw [Qca (by omega) (by omega)]; omega
      have e3 : Qmh u.Parts i = a.Gain := by rw [Qmh, if_neg (by omega), ha]; rfl
      simp only [e2, Qjg ha, Option.bind_some, show decide ((i : Int) > 0) = true from by simpa using hp, cond_true, e3]
      by_cases hga : p.Gain > a.Gain
      ·have : btw p.Gain 0 a.Gain = false := by
        cases hb : btw p.Gain 0 a.Gain with
        | false => rfl
        | true => have := Qgv.1 hb; omega
       simp [hga, this]
      ·have : btw p.Gain 0 a.Gain = true := Qgv.2 (by omega)
       simp [hga, this]
theorem Q6e {N : Nat} {u : GUnit} (hl : (u.Parts.length : Int) ≤ 9223372036854775807) (hN : u.Parts.length + 100 ≤ N) : Qi0 N u = some (Qng u) := by
 unfold Qi0 Qng
 simp only [Qc5]
 have := Q0j N u (fun _ => (Qdk N u.Inlet 0 5).bind fun x3 => bif x3 then bif decide ((u.Parts.length : Int) ≥ 1) then some (decide ((u.Parts.length : Int) ≤ 8)) else some false else some false) hl N 0 (by simp; omega) (by simp [Qmh])
 rw [show ((0 : Nat) : Int) = 0 from rfl, List.drop_zero] at this
 rw [this, show Qmh u.Parts 0 = 1000 from rfl]
 simp only [Q0o, Option.bind_some]
 unfold btw
 cases Qmi 1000 u.Parts <;> by_cases h1 : (0 : Int) ≤ u.Inlet <;> by_cases h2 : u.Inlet ≤ 5 <;> by_cases h3 : (1 : Int) ≤ u.Parts.length <;> simp [h1, h2, h3]
theorem Qob {u : GUnit} (h : Qng u = true) : (0 ≤ u.Inlet ∧ u.Inlet ≤ 5) ∧ (1 ≤ u.Parts.length ∧ u.Parts.length ≤ 8) ∧ Qmi 1000 u.Parts = true := by
 unfold Qng at h
 simp only [Bool.and_eq_true, Qgv] at h
 exact ⟨h.1.1, by omega, h.2⟩
theorem Q0r (N : Nat) (u : GUnit) (k : List GPart → Option GUnit) (hl : u.Parts.length ≤ 100) : ∀ (n i : Nat) (acc : List GPart), (u.Parts.drop i).length < n → acc.length = i →
  Qeh N u k n i acc = k (acc ++ u.Parts.drop i) := by
 intro n
 induction n with
 | zero => intro i _ h; exact absurd h (Nat.not_lt_zero _)
 | succ n ih =>
  intro i acc h hacc
  rw [Qeh]
  cases hd : u.Parts.drop i with
  | nil =>
   have := Qir hd
   simp [show ¬ ((i : Int) < u.Parts.length) from by omega]
  | cons b l =>
   obtain ⟨hg, hd', hlt⟩ := Qha hd
   have e1 : w64 ((i : Int) + 1) = ((i + 1 : Nat) : Int) := Qca (by omega) (by omega)
   simp only [show decide ((i : Int) < u.Parts.length) = true from by simpa using hlt, cond_true, Qjg hg, Option.bind_some, e1]
   rw [ih (i + 1) (acc ++ [b]) (by rw [hd']; rw [hd] at h; simp at h; omega) (by simp [hacc]), hd']
   simp only [chk, show decide ((acc.length + [b].length) * 16 ≤ 140737488355328) = true from by simp; omega, cond_true, List.append_assoc, List.cons_append, List.nil_append]
theorem Q7c {N : Nat} {u : GUnit} (hl : u.Parts.length ≤ 100) (hN : 200 ≤ N) : Qj4 N u = some u := by
 unfold Qj4
 simp only [Qc5]
 have := Q0r N u (fun y1 => some ⟨u.Inlet, y1⟩) hl N 0 [] (by simp; omega) rfl
 simpa using this
def capI : List GPart → Int
 | [] => 0
 | p :: l => p.Width + capI l
def powI : List GPart → Int → Int
 | [], _ => 0
 | p :: l, m => min m p.Width * p.Gain + powI l (m - min m p.Width)
theorem Q4s : ∀ (l : List GPart) (last : Int), Qmi last l = true → 0 ≤ capI l ∧ capI l ≤ 100000 * l.length
 | [], _, _ => ⟨Int.le_refl _, by simp [capI]⟩
 | p :: l, last, h => by
  simp only [Qmi, Bool.and_eq_true, Qgv] at h
  have := Q4s l _ h.2
  simp only [capI, List.length_cons]
  omega
theorem Q33 {x g : Int} (x0 : 0 ≤ x) (x1 : x ≤ 100000) (g0 : 0 ≤ g) (g1 : g ≤ 1000) : 0 ≤ x * g ∧ x * g ≤ 100000000 :=
 ⟨Int.mul_nonneg x0 g0, Int.le_trans (Int.mul_le_mul_of_nonneg_left g1 x0) (by omega)⟩
theorem Qxj : ∀ (l : List GPart) (last m : Int), Qmi last l = true → last ≤ 1000 → 0 ≤ m → 0 ≤ powI l m ∧ powI l m ≤ 100000000 * l.length
 | [], _, _, _, _, _ => ⟨Int.le_refl _, by simp [powI]⟩
 | p :: l, last, m, h, h1, h2 => by
  simp only [Qmi, Bool.and_eq_true, Qgv] at h
  obtain ⟨⟨h3, h4⟩, h5⟩ := h
  have ih := Qxj l p.Gain (m - min m p.Width) h5 (by omega) (by omega)
  have := Q33 (x := min m p.Width) (g := p.Gain) (by omega) (by omega) (by omega) (by omega)
  simp only [powI, List.length_cons]
  omega
theorem Q4r (N : Nat) (u : GUnit) (k : Int → Option Int) (hl : u.Parts.length ≤ 1000) : ∀ (n i : Nat) (a : Int), (u.Parts.drop i).length < n →
  Qcn N u k n (w64 a) i = k (w64 (a + capI (u.Parts.drop i))) := by
 intro n
 induction n with
 | zero => intro i _ h; exact absurd h (Nat.not_lt_zero _)
 | succ n ih =>
  intro i a h
  rw [Qcn]
  cases hd : u.Parts.drop i with
  | nil =>
   have := Qir hd
   simp [show ¬ ((i : Int) < u.Parts.length) from by omega, capI]
  | cons b l =>
   obtain ⟨hg, hd', hlt⟩ := Qha hd
   have e1 : w64 ((i : Int) + 1) = ((i + 1 : Nat) : Int) := Qca (by omega) (by omega)
   simp only [show decide ((i : Int) < u.Parts.length) = true from by simpa using hlt, cond_true, Qjg hg, Option.bind_some, e1, Qps]
   rw [ih (i + 1) (a + b.Width) (by rw [hd']; rw [hd] at h; simp at h; omega), hd', capI, Int.add_assoc]
theorem Qyw : w64 0 = 0 := by decide
theorem Zcv {N : Nat} {u : GUnit} (h : Qng u = true) (hN : 100 ≤ N) : Qed N u = some (capI u.Parts) := by
 obtain ⟨_, h1, h2⟩ := Qob h
 have hb := Q4s _ _ h2
 unfold Qed
 simp only [Qc5]
 have := Q4r N u (fun y1 => some y1) (by omega) N 0 0 (by simp; omega)
 rw [show ((0 : Nat) : Int) = 0 from rfl, List.drop_zero, Qyw, Int.zero_add, Qca (by omega) (by omega)] at this
 exact this
def Q0e : List GPart → Int → List (GPart × Int)
 | [], _ => []
 | p :: l, m => (p, min m p.Width) :: Q0e l (m - min m p.Width)
theorem Q22 (N : Nat) (t : List GPart) (hl : t.length ≤ 1000) (hf : ∀ p ∈ t, 1 ≤ p.Width ∧ p.Width ≤ 100000) : ∀ (n i : Nat) (m : Int), (t.drop i).length < n → 0 ≤ m → m ≤ 9223372036854775807 →
  Qc0 N t n i m = some (Q0e (t.drop i) m) := by
 intro n
 induction n with
 | zero => intro i _ h; exact absurd h (Nat.not_lt_zero _)
 | succ n ih =>
  intro i m h h0 h1
  rw [Qc0]
  cases hd : t.drop i with
  | nil =>
   have := Qir hd
   simp [show ¬ ((i : Int) < t.length) from by omega, Q0e]
  | cons b l =>
   obtain ⟨hg, hd', hlt⟩ := Qha hd
   obtain ⟨w0, w1⟩ := hf b (List.mem_of_getElem? hg)
   have e1 : w64 ((i : Int) + 1) = ((i + 1 : Nat) : Int) := Qca (by omega) (by omega)
   have e2 : (if b.Width < m then b.Width else m) = min m b.Width := by split <;> omega
   have e3 : w64 (m - min m b.Width) = m - min m b.Width := Qca (by omega) (by omega)
   simp only [show decide ((i : Int) < t.length) = true from by simpa using hlt, cond_true, Qjg hg, Option.bind_some, e1, e2, e3]
   rw [ih (i + 1) _ (by rw [hd']; rw [hd] at h; simp at h; omega) (by omega) (by omega), hd']
   rfl
theorem Qzg : ∀ (l : List GPart) (last : Int), Qmi last l = true → last ≤ 1000 → ∀ p ∈ l, (1 ≤ p.Width ∧ p.Width ≤ 100000) ∧ 0 ≤ p.Gain ∧ p.Gain ≤ last
 | [], _, _, _, p, hp => by cases hp
 | q :: l, last, h, h1, p, hp => by
  simp only [Qmi, Bool.and_eq_true, Qgv] at h
  rcases List.mem_cons.1 hp with rfl | hp
  ·exact ⟨h.1.2, h.1.1⟩
  ·have := Qzg l q.Gain h.2 (by omega) p hp
   exact ⟨this.1, by omega⟩
theorem Qvb (N : Nat) (k : Int → Option Int) : ∀ (l : List GPart) (last m a : Int), Qmi last l = true → last ≤ 1000 → 0 ≤ m →
  Qcj N k (Q0e l m) (w64 a) = k (w64 (a + powI l m))
 | [], _, _, _, _, _, _ => by simp [Q0e, Qcj, powI]
 | p :: l, last, m, a, h, h1, h2 => by
  simp only [Qmi, Bool.and_eq_true, Qgv] at h
  obtain ⟨⟨h3, h4⟩, h5⟩ := h
  rw [Q0e, Qcj]
  dsimp only
  have := Q33 (x := min m p.Width) (g := p.Gain) (by omega) (by omega) (by omega) (by omega)
  rw [Int.mul_comm, Qca (show -9223372036854775808 ≤ min m p.Width * p.Gain by omega) (by omega), Qps, Qvb N k l p.Gain _ _ h5 (by omega) (by omega), powI, Int.add_assoc]
theorem Za2 {N : Nat} {u : GUnit} {m : Int} (h : Qng u = true) (hN : 100 ≤ N) (h0 : 0 ≤ m) (hm : m ≤ 9223372036854775807) : Qeg N u m = some (powI u.Parts m) := by
 obtain ⟨_, h1, h2⟩ := Qob h
 have hb := Qxj _ _ m h2 (Int.le_refl _) h0
 have hu := Q22 N u.Parts (by omega) (fun p hp => (Qzg _ _ h2 (Int.le_refl _) p hp).1) N 0 m (by simp; omega) h0 hm
 rw [show ((0 : Nat) : Int) = 0 from rfl, List.drop_zero] at hu
 have hr := Qvb N (fun y1 => some y1) u.Parts 1000 m 0 h2 (Int.le_refl _) h0
 rw [Qyw, Int.zero_add, Qca (by omega) (by omega)] at hr
 unfold Qeg
 simp only [Qc5, Qgl, Qgk, Option.bind_some, hu, hr]
def strB (s : GStream) : Bool := btw s.Mass 0 1000000 && btw s.Heat 0 (4000 * s.Mass) && btw s.Silica 0 (10000 * s.Mass) && btw s.Gas 0 1000000000
theorem Qta (N : Nat) (s : GStream) : Qdu N s = some (strB s) := by
 unfold Qdu strB
 simp only [Qmq, Option.bind_some]
 cases h : btw s.Mass 0 1000000 with
 | false => rfl
 | true =>
  obtain ⟨h1, h2⟩ := Qgv.1 h
  rw [Qca (show -9223372036854775808 ≤ 4000 * s.Mass by omega) (by omega), Qca (show -9223372036854775808 ≤ 10000 * s.Mass by omega) (by omega)]
  cases btw s.Heat 0 (4000 * s.Mass) <;> cases btw s.Silica 0 (10000 * s.Mass) <;> simp
theorem Q3a (N : Nat) (s : GStream) : Qev N s = some (strB s) := by
 unfold Qev strB
 simp only [Q0o, Option.bind_some]
 cases h : btw s.Mass 0 1000000 with
 | false => rfl
 | true =>
  obtain ⟨h1, h2⟩ := Qgv.1 h
  rw [Qca (show -9223372036854775808 ≤ 4000 * s.Mass by omega) (by omega), Qca (show -9223372036854775808 ≤ 10000 * s.Mass by omega) (by omega)]
  cases btw s.Heat 0 (4000 * s.Mass) <;> cases btw s.Silica 0 (10000 * s.Mass) <;> simp
theorem Qp5 {s : GStream} : strB s = true ↔ (0 ≤ s.Mass ∧ s.Mass ≤ 1000000) ∧ (0 ≤ s.Heat ∧ s.Heat ≤ 4000 * s.Mass) ∧ (0 ≤ s.Silica ∧ s.Silica ≤ 10000 * s.Mass) ∧ 0 ≤ s.Gas ∧ s.Gas ≤ 1000000000 := by
 simp [strB, Qgv, and_assoc]
theorem Qzn (N : Nat) (s : GStream) : Qea N s = some (bif strB s then 0 else 1) := by
 unfold Qea
 rw [Qta]
 cases strB s <;> rfl
theorem Qzu (N : Nat) (s : GStream) : Qdg N s = some (!strB s) := by
 unfold Qdg Qiq
 rw [Qzn]
 cases strB s <;> rfl
theorem Qo7 {N : Nat} (hN : 10 ≤ N) (s : GStream) : Qem N [s] = some (strB s) := by
 obtain ⟨n, rfl⟩ : ∃ n, N = n + 2 := ⟨N - 2, by omega⟩
 unfold Qem Qdq Qbl Qbt
 simp only [Qc5, Qa1, Qzu, getI, Option.bind_some, show w64 (0 + 1) = 1 from by decide]
 cases h : strB s <;> simp [h]
theorem Qsc {N : Nat} (hN : 10 ≤ N) (s t : GStream) : Qem N [s, t] = some (strB s && strB t) := by
 obtain ⟨n, rfl⟩ : ∃ n, N = n + 3 := ⟨N - 3, by omega⟩
 unfold Qem Qdq Qbl Qbt
 simp only [Qc5, Qa1, Qzu, getI, Option.bind_some, show w64 (0 + 1) = 1 from by decide, show w64 (1 + 1) = 2 from by decide]
 cases h : strB s <;> cases h' : strB t <;> simp [h, h']
theorem Q57 (N : Nat) (hN : 10 ≤ N) (s : GStream) (t : Int) : Qho N s t = some (bif strB s then (bif btw t 0 4000 then (⟨s.Mass, w64 (s.Heat - (if w64 (s.Heat - w64 (t * s.Mass)) > 0 then w64 (s.Heat - w64 (t * s.Mass)) else 0)), s.Silica, s.Gas⟩, (if w64 (s.Heat - w64 (t * s.Mass)) > 0 then w64 (s.Heat - w64 (t * s.Mass)) else 0), 0) else (⟨0, 0, 0, 0⟩, 0, 2)) else (⟨0, 0, 0, 0⟩, 0, 1)) := by
 unfold Qho
 simp only [Qo7 hN, Option.bind_some, Qkn]
 cases strB s <;> cases btw t 0 4000 <;> rfl
def cycB (c : GCycle) : Bool := btw c.Out 0 4000 && btw c.Yield 0 1000 && btw c.Most 0 4000000000
theorem Q4n (N : Nat) (c : GCycle) : Qew N c = some (cycB c) := by
 unfold Qew cycB
 simp only [Qkn, Option.bind_some]
 cases btw c.Out 0 4000 <;> cases btw c.Yield 0 1000 <;> simp
theorem Zcs (N : Nat) (c : GCycle) : Qfz N c = some (cycB c) := by
 unfold Qfz cycB
 simp only [Q0o, Option.bind_some]
 cases btw c.Out 0 4000 <;> cases btw c.Yield 0 1000 <;> simp
theorem Qxw {N : Nat} (hN : 10 ≤ N) (s t : GStream) : Qg9 N [s, t] = some (bif strB s && strB t then 0 else 1) := by
 obtain ⟨n, rfl⟩ : ∃ n, N = n + 3 := ⟨N - 3, by omega⟩
 unfold Qg9 Qej Qb2 Qb9
 simp only [Qc5, Qa7, Qd9, Qta, getI, Option.bind_some, show w64 (0 + 1) = 1 from by decide, show w64 (1 + 1) = 2 from by decide]
 cases h : strB s <;> cases h' : strB t <;> simp [h, h']
def sumS (s t : GStream) : GStream := ⟨s.Mass + t.Mass, s.Heat + t.Heat, s.Silica + t.Silica, s.Gas + t.Gas⟩
theorem Zer {s t : GStream} (hs : strB s = true) (ht : strB t = true) : w64 (s.Mass + t.Mass) = s.Mass + t.Mass ∧ w64 (s.Heat + t.Heat) = s.Heat + t.Heat ∧ w64 (s.Silica + t.Silica) = s.Silica + t.Silica ∧ w64 (s.Gas + t.Gas) = s.Gas + t.Gas := by
 have h1 := Qp5.1 hs
 have h2 := Qp5.1 ht
 exact ⟨Qca (by omega) (by omega), Qca (by omega) (by omega), Qca (by omega) (by omega), Qca (by omega) (by omega)⟩
theorem Zed {s : GStream} (hs : strB s = true) : w64 s.Mass = s.Mass ∧ w64 s.Heat = s.Heat ∧ w64 s.Silica = s.Silica ∧ w64 s.Gas = s.Gas := by
 have h1 := Qp5.1 hs
 exact ⟨Qca (by omega) (by omega), Qca (by omega) (by omega), Qca (by omega) (by omega), Qca (by omega) (by omega)⟩
theorem Q6a {N : Nat} (hN : 10 ≤ N) {s t : GStream} (hs : strB s = true) (ht : strB t = true) : Qko N [s, t] = some (sumS s t) := by
 obtain ⟨n, rfl⟩ : ∃ n, N = n + 3 := ⟨N - 3, by omega⟩
 obtain ⟨a1, a2, a3, a4⟩ := Zer hs ht
 obtain ⟨b1, b2, b3, b4⟩ := Zed hs
 unfold Qko
 simp [Qc5, Qfc, Qio, Qcp, getI, show w64 1 = 1 from by decide, show w64 2 = 2 from by decide, b1, b2, b3, b4, a1, a2, a3, a4, sumS]
def Qpv : GStream := ⟨0, 0, 0, 0⟩
def expI (u : GUnit) (s : GStream) : GStream × Int × Int :=
 if s.Mass > capI u.Parts then (Qpv, 0, 2) else if s.Heat < powI u.Parts s.Mass then (Qpv, 0, 9) else (⟨s.Mass, w64 (s.Heat - powI u.Parts s.Mass), s.Silica, s.Gas⟩, powI u.Parts s.Mass, 0)
theorem Zbd {N : Nat} (hN : 100 ≤ N) (u : GUnit) (s : GStream) : Qia N u s = some (bif Qng u && strB s then expI u s else (Qpv, 0, 1)) := by
 unfold Qia
 simp only [Qc5, Q23 hN, Option.bind_some, Qo7 (show 10 ≤ N by omega)]
 cases h : Qng u with
 | false => rfl
 | true =>
  cases h' : strB s with
  | false => rfl
  | true =>
   have hs := Qp5.1 h'
   simp only [Bool.not_true, cond_false, Zcv h hN, Option.bind_some, Za2 h hN hs.1.1 (by omega), Bool.and_self, cond_true, expI]
   by_cases h1 : s.Mass > capI u.Parts
   ·simp [h1, Qpv]
   ·by_cases h2 : s.Heat < powI u.Parts s.Mass <;> simp [h1, h2, Qpv]
def conI (s t : GStream) (m : Int) : GStream × Int × Int :=
 if (sumS s t).Mass > 1000000 then (Qpv, 0, 3) else if (sumS s t).Gas > 1000000000 then (Qpv, 0, 3) else if (sumS s t).Gas > m then (Qpv, 0, 11) else (⟨(sumS s t).Mass, (sumS s t).Heat, (sumS s t).Silica, 0⟩, (sumS s t).Gas, 0)
theorem Zct {N : Nat} (hN : 100 ≤ N) (s t : GStream) (m : Int) : Qgu N s t m = some (bif strB s && strB t then (bif btw m 0 1000000000 then conI s t m else (Qpv, 0, 2)) else (Qpv, 0, 1)) := by
 unfold Qgu Qmt
 simp only [Qsc (show 10 ≤ N by omega), Option.bind_some, Qkn, Qxw (show 10 ≤ N by omega)]
 cases h : strB s <;> cases h' : strB t <;> simp only [Bool.and_true, Bool.and_false, Bool.not_true, Bool.not_false, cond_true, cond_false, Qpv]
 cases h2 : btw m 0 1000000000 <;> simp only [Bool.not_true, Bool.not_false, cond_true, cond_false]
 simp only [Q6a (show 10 ≤ N by omega) h h', Option.bind_some, conI, Qpv]
 by_cases h3 : (sumS s t).Mass > 1000000
 ·simp [h3]
 ·by_cases h4 : (sumS s t).Gas > 1000000000
  ·simp [h3, h4]
  ·by_cases h5 : (sumS s t).Gas > m <;> simp [h3, h4, h5]
end Go.Proofs.YtlhakkkjgdbdpaaGreat
