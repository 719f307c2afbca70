/-
  Plain laws that the laws of layer 7 lean on: numbers, units, their work. No conditions.
-/
import Derived.Test.YtlhakkkjgdbdpaaX6
import Derived.Test.YtlhakkkjgdbdpaaXo
namespace Go.Proofs.Ytlhakkkjgdbdpaa
open Go.RowKit
theorem Qa6 {x : Int} (h : -9223372036854775808 ≤ x) (h' : x ≤ 9223372036854775807) : w64 x = x := by
 unfold w64
 rw [IntKind.wrap_i64]
 omega
theorem Qij (a b : Int) : w64 (w64 a + b) = w64 (a + b) := by
 unfold w64
 rw [IntKind.wrap_i64, IntKind.wrap_i64, IntKind.wrap_i64]
 omega
theorem Qr4 (a b : Int) : w64 (a + w64 b) = w64 (a + b) := by rw [Int.add_comm, Qij, Int.add_comm]
theorem Qcv {α : Type} {l : List α} {i : Nat} {x : α} (h : l[i]? = some x) : getI l (i : Int) = some x := by
 simp [getI, h]
def btw (a lo hi : Int) : Bool := decide (lo ≤ a) && decide (a ≤ hi)
theorem Qfu {a lo hi : Int} : btw a lo hi = true ↔ lo ≤ a ∧ a ≤ hi := by simp [btw]
theorem Qlv (N : Nat) (a lo hi : Int) : Qbl N a lo hi = some (btw a lo hi) := by
 unfold Qbl btw
 by_cases h : lo ≤ a <;> simp [h]
theorem in_eq (N : Nat) (a lo hi : Int) : Qgr N a lo hi = some (btw a lo hi) := by
 unfold Qgr btw
 by_cases h : lo ≤ a <;> simp [h]
theorem Qeb {α : Type} {t : List α} {i : Nat} {a : α} {l : List α} (h : t.drop i = a :: l) : t[i]? = some a ∧ t.drop (i + 1) = l ∧ i < t.length := by
 have hlt : i < t.length := by
  rcases Nat.lt_or_ge i t.length with h' | h'
  ·exact h'
  ·rw [List.drop_eq_nil_of_le h'] at h; cases h
 rw [List.drop_eq_getElem_cons hlt] at h
 simp only [List.cons.injEq] at h
 exact ⟨by rw [List.getElem?_eq_getElem hlt, h.1], h.2, hlt⟩
theorem Qe4 {α : Type} {t : List α} {i : Nat} (h : t.drop i = []) : t.length ≤ i := List.drop_eq_nil_iff.1 h
theorem awake_at : Qf5 2000 = some true := by decide +kernel
theorem maxLen_eq : maxLen = 9223372036854775807 := rfl
def Qkg : Int → List GPart → Bool
 | _, [] => true
 | last, p :: l => btw p.Gain 0 last && btw p.Width 1 100000 && Qkg p.Gain l
def Qjx (u : GUnit) : Bool := btw u.Inlet 0 5 && btw u.Parts.length 1 8 && Qkg 1000 u.Parts
theorem valid1_eq (N : Nat) (p : GPart) (last : Int) : Qdp N p last = some (!(btw p.Gain 0 last && btw p.Width 1 100000)) := by
 unfold Qdp Qfm
 simp only [Qlv, Option.bind_some]
 cases btw p.Gain 0 last <;> simp
theorem index_loop (N : Nat) (t : List GPart) (last0 : Int) (hl : (t.length : Int) ≤ 9223372036854775807) : ∀ (n i : Nat) (last : Int), (t.drop i).length < n →
  ∃ x y : Int, Qa5 N t (fun y3 => some ((-1), y3)) n i last = some (x, y) ∧ (decide (x ≥ 0)) = !(Qkg last (t.drop i)) := by
 intro n
 induction n with
 | zero => intro i last h; exact absurd h (Nat.not_lt_zero _)
 | succ n ih =>
  intro i last h
  rw [Qa5]
  cases hd : t.drop i with
  | nil =>
   have := Qe4 hd
   exact ⟨-1, last, by simp [show ¬ ((i : Int) < t.length) from by omega], rfl⟩
  | cons p l =>
   obtain ⟨hi, hd', hlt⟩ := Qeb hd
   have e1 : w64 ((i : Int) + 1) = ((i + 1 : Nat) : Int) := Qa6 (by omega) (by omega)
   simp only [show decide ((i : Int) < t.length) = true from by simpa using hlt, cond_true, Qcv hi, Option.bind_some, valid1_eq, e1, Qkg]
   cases hv : (btw p.Gain 0 last && btw p.Width 1 100000) with
   | false => exact ⟨i, p.Gain, by simp, by simp⟩
   | true =>
    have ih' := ih (i + 1) p.Gain (by rw [hd']; rw [hd] at h; simp at h; omega)
    rw [hd'] at ih'
    simpa using ih'
theorem unit_eq {N : Nat} {u : GUnit} (hN : 100 ≤ N) : Qe5 N u = some (Qjx u) := by
 unfold Qe5 Qjx
 simp only [Qlv, Option.bind_some]
 cases h0 : btw u.Inlet 0 5 <;> simp only [cond_true, cond_false, Bool.false_and, Bool.true_and]
 cases h1 : btw u.Parts.length 1 8 <;> simp only [cond_true, cond_false, Bool.false_and, Bool.true_and]
 obtain ⟨h2, h3⟩ := Qfu.1 h1
 unfold Qe3 Qb3 Qb8
 obtain ⟨x, y, e1, e2⟩ := index_loop N u.Parts 1000 (by omega) N 0 1000 (by simp; omega)
 rw [show ((0 : Nat) : Int) = 0 from rfl] at e1
 rw [List.drop_zero] at e2
 simp only [Qbr, e1, Option.bind_some, e2, Bool.not_not]
def Qme (t : List GPart) (i : Nat) : Int := if i = 0 then 1000 else (t[i - 1]?.map (·.Gain)).getD 0
theorem right_loop (N : Nat) (u : GUnit) (k : Unit → Option Bool) (hl : (u.Parts.length : Int) ≤ 9223372036854775807) : ∀ (n i : Nat), (u.Parts.drop i).length < n → Qme u.Parts i ≤ 1000 →
  Qdl N u k n i = bif Qkg (Qme u.Parts i) (u.Parts.drop i) then k () else some false := by
 intro n
 induction n with
 | zero => intro i h; exact absurd h (Nat.not_lt_zero _)
 | succ n ih =>
  intro i h hlast
  rw [Qdl]
  cases hd : u.Parts.drop i with
  | nil =>
   have := Qe4 hd
   simp [show ¬ ((i : Int) < u.Parts.length) from by omega, Qkg]
  | cons p l =>
   obtain ⟨hi, hd', hlt⟩ := Qeb hd
   have e1 : w64 ((i : Int) + 1) = ((i + 1 : Nat) : Int) := Qa6 (by omega) (by omega)
   have hnext : Qme u.Parts (i + 1) = p.Gain := by simp [Qme, hi]
   simp only [show decide ((i : Int) < u.Parts.length) = true from by simpa using hlt, cond_true, Qcv hi, Option.bind_some, in_eq, e1, Qkg]
   cases hw : btw p.Width 1 100000
   ·simp
   ·cases hg : btw p.Gain 0 1000
    ·have : btw p.Gain 0 (Qme u.Parts i) = false := by
      cases hb : btw p.Gain 0 (Qme u.Parts i) with
      | false => rfl
      | true =>
       have := Qfu.1 hb
       rw [Qfu.2 (by omega)] at hg
       cases hg
     simp [this]
    ·have hg' := Qfu.1 hg
     have ih' := ih (i + 1) (by rw [hd']; rw [hd] at h; simp at h; omega) (by rw [hnext]; omega)
     rw [hd', hnext] at ih'
     simp only [Bool.not_true, cond_false, ih', Bool.and_true]
     rcases Nat.eq_zero_or_pos i with rfl | hp
     ·simp [Qme, hg]
     ·obtain ⟨a, ha⟩ : ∃ a, u.Parts[i - 1]? = some a := ⟨_, List.getElem?_eq_getElem (by omega)⟩
      have e2 : w64 ((i : Int) - 1) = ((i - 1 : Nat) : Int) := by rw [Qa6 (by omega) (by omega)]; omega
      have e3 : Qme u.Parts i = a.Gain := by rw [Qme, if_neg (by omega), ha]; rfl
      simp only [e2, Qcv ha, Option.bind_some, show decide ((i : Int) > 0) = true from by simpa using hp, cond_true, e3]
      by_cases hga : p.Gain > a.Gain
      ·have : btw p.Gain 0 a.Gain = false := by
        cases hb : btw p.Gain 0 a.Gain with
        | false => rfl
        | true => have := Qfu.1 hb; omega
       simp [hga, this]
      ·have : btw p.Gain 0 a.Gain = true := Qfu.2 (by omega)
       simp [hga, this]
theorem right_eq {N : Nat} {u : GUnit} (hl : (u.Parts.length : Int) ≤ 9223372036854775807) (hN : u.Parts.length + 100 ≤ N) : Qiq N u = some (Qjx u) := by
 unfold Qiq Qjx
 simp only [Qbr]
 have := right_loop N u (fun _ => (Qgr N u.Inlet 0 5).bind fun x3 => bif x3 then bif decide ((u.Parts.length : Int) ≥ 1) then some (decide ((u.Parts.length : Int) ≤ 8)) else some false else some false) hl N 0 (by simp; omega) (by simp [Qme])
 rw [show ((0 : Nat) : Int) = 0 from rfl, List.drop_zero] at this
 rw [this, show Qme u.Parts 0 = 1000 from rfl]
 simp only [in_eq, Option.bind_some]
 unfold btw
 cases Qkg 1000 u.Parts <;> by_cases h1 : (0 : Int) ≤ u.Inlet <;> by_cases h2 : u.Inlet ≤ 5 <;> by_cases h3 : (1 : Int) ≤ u.Parts.length <;> simp [h1, h2, h3]
theorem Qev {u : GUnit} (h : Qjx u = true) : (0 ≤ u.Inlet ∧ u.Inlet ≤ 5) ∧ (1 ≤ u.Parts.length ∧ u.Parts.length ≤ 8) ∧ Qkg 1000 u.Parts = true := by
 unfold Qjx at h
 simp only [Bool.and_eq_true, Qfu] at h
 exact ⟨h.1.1, by omega, h.2⟩
theorem copyU_loop (N : Nat) (u : GUnit) (k : List GPart → Option GUnit) (hl : u.Parts.length ≤ 100) : ∀ (n i : Nat) (acc : List GPart), (u.Parts.drop i).length < n → acc.length = i →
  Qek N u k n i acc = k (acc ++ u.Parts.drop i) := by
 intro n
 induction n with
 | zero => intro i _ h; exact absurd h (Nat.not_lt_zero _)
 | succ n ih =>
  intro i acc h hacc
  rw [Qek]
  cases hd : u.Parts.drop i with
  | nil =>
   have := Qe4 hd
   simp [show ¬ ((i : Int) < u.Parts.length) from by omega]
  | cons b l =>
   obtain ⟨hg, hd', hlt⟩ := Qeb hd
   have e1 : w64 ((i : Int) + 1) = ((i + 1 : Nat) : Int) := Qa6 (by omega) (by omega)
   simp only [show decide ((i : Int) < u.Parts.length) = true from by simpa using hlt, cond_true, Qcv hg, Option.bind_some, e1]
   rw [ih (i + 1) (acc ++ [b]) (by rw [hd']; rw [hd] at h; simp at h; omega) (by simp [hacc]), hd']
   simp only [chk, show decide ((acc.length + [b].length) * 16 ≤ 140737488355328) = true from by simp; omega, cond_true, List.append_assoc, List.cons_append, List.nil_append]
theorem copyU_eq {N : Nat} {u : GUnit} (hl : u.Parts.length ≤ 100) (hN : 200 ≤ N) : Qju N u = some u := by
 unfold Qju
 simp only [Qbr]
 have := copyU_loop N u (fun y1 => some ⟨u.Inlet, y1⟩) hl N 0 [] (by simp; omega) rfl
 simpa using this
def capI : List GPart → Int
 | [] => 0
 | p :: l => p.Width + capI l
def powI : List GPart → Int → Int
 | [], _ => 0
 | p :: l, m => min m p.Width * p.Gain + powI l (m - min m p.Width)
theorem Qwt : ∀ (l : List GPart) (last : Int), Qkg last l = true → 0 ≤ capI l ∧ capI l ≤ 100000 * l.length
 | [], _, _ => ⟨Int.le_refl _, by simp [capI]⟩
 | p :: l, last, h => by
  simp only [Qkg, Bool.and_eq_true, Qfu] at h
  have := Qwt l _ h.2
  simp only [capI, List.length_cons]
  omega
theorem Qsq {x g : Int} (x0 : 0 ≤ x) (x1 : x ≤ 100000) (g0 : 0 ≤ g) (g1 : g ≤ 1000) : 0 ≤ x * g ∧ x * g ≤ 100000000 :=
 ⟨Int.mul_nonneg x0 g0, Int.le_trans (Int.mul_le_mul_of_nonneg_left g1 x0) (by omega)⟩
theorem Qoj : ∀ (l : List GPart) (last m : Int), Qkg last l = true → last ≤ 1000 → 0 ≤ m → 0 ≤ powI l m ∧ powI l m ≤ 100000000 * l.length
 | [], _, _, _, _, _ => ⟨Int.le_refl _, by simp [powI]⟩
 | p :: l, last, m, h, h1, h2 => by
  simp only [Qkg, Bool.and_eq_true, Qfu] at h
  obtain ⟨⟨h3, h4⟩, h5⟩ := h
  have ih := Qoj l p.Gain (m - min m p.Width) h5 (by omega) (by omega)
  have := Qsq (x := min m p.Width) (g := p.Gain) (by omega) (by omega) (by omega) (by omega)
  simp only [powI, List.length_cons]
  omega
theorem capR_loop (N : Nat) (u : GUnit) (k : Int → Option Int) (hl : u.Parts.length ≤ 1000) : ∀ (n i : Nat) (a : Int), (u.Parts.drop i).length < n →
  Qc9 N u k n (w64 a) i = k (w64 (a + capI (u.Parts.drop i))) := by
 intro n
 induction n with
 | zero => intro i _ h; exact absurd h (Nat.not_lt_zero _)
 | succ n ih =>
  intro i a h
  rw [Qc9]
  cases hd : u.Parts.drop i with
  | nil =>
   have := Qe4 hd
   simp [show ¬ ((i : Int) < u.Parts.length) from by omega, capI]
  | cons b l =>
   obtain ⟨hg, hd', hlt⟩ := Qeb hd
   have e1 : w64 ((i : Int) + 1) = ((i + 1 : Nat) : Int) := Qa6 (by omega) (by omega)
   simp only [show decide ((i : Int) < u.Parts.length) = true from by simpa using hlt, cond_true, Qcv hg, Option.bind_some, e1, Qij]
   rw [ih (i + 1) (a + b.Width) (by rw [hd']; rw [hd] at h; simp at h; omega), hd', capI, Int.add_assoc]
theorem Qpa : w64 0 = 0 := by decide
theorem capR_eq {N : Nat} {u : GUnit} (h : Qjx u = true) (hN : 100 ≤ N) : Qgq N u = some (capI u.Parts) := by
 obtain ⟨_, h1, h2⟩ := Qev h
 have hb := Qwt _ _ h2
 unfold Qgq
 simp only [Qbr]
 have := capR_loop N u (fun y1 => some y1) (by omega) N 0 0 (by simp; omega)
 rw [show ((0 : Nat) : Int) = 0 from rfl, List.drop_zero, Qpa, Int.zero_add, Qa6 (by omega) (by omega)] at this
 exact this
def Qy7 : List GPart → Int → List (GPart × Int)
 | [], _ => []
 | p :: l, m => (p, min m p.Width) :: Qy7 l (m - min m p.Width)
theorem used_loop (N : Nat) (t : List GPart) (hl : t.length ≤ 1000) (hf : ∀ p ∈ t, 1 ≤ p.Width ∧ p.Width ≤ 100000) : ∀ (n i : Nat) (m : Int), (t.drop i).length < n → 0 ≤ m → m ≤ 9223372036854775807 →
  Qcu N t n i m = some (Qy7 (t.drop i) m) := by
 intro n
 induction n with
 | zero => intro i _ h; exact absurd h (Nat.not_lt_zero _)
 | succ n ih =>
  intro i m h h0 h1
  rw [Qcu]
  cases hd : t.drop i with
  | nil =>
   have := Qe4 hd
   simp [show ¬ ((i : Int) < t.length) from by omega, Qy7]
  | cons b l =>
   obtain ⟨hg, hd', hlt⟩ := Qeb hd
   obtain ⟨w0, w1⟩ := hf b (List.mem_of_getElem? hg)
   have e1 : w64 ((i : Int) + 1) = ((i + 1 : Nat) : Int) := Qa6 (by omega) (by omega)
   have e2 : (if b.Width < m then b.Width else m) = min m b.Width := by split <;> omega
   have e3 : w64 (m - min m b.Width) = m - min m b.Width := Qa6 (by omega) (by omega)
   simp only [show decide ((i : Int) < t.length) = true from by simpa using hlt, cond_true, Qcv hg, Option.bind_some, e1, e2, e3]
   rw [ih (i + 1) _ (by rw [hd']; rw [hd] at h; simp at h; omega) (by omega) (by omega), hd']
   rfl
theorem Qsv : ∀ (l : List GPart) (last : Int), Qkg last l = true → last ≤ 1000 → ∀ p ∈ l, (1 ≤ p.Width ∧ p.Width ≤ 100000) ∧ 0 ≤ p.Gain ∧ p.Gain ≤ last
 | [], _, _, _, p, hp => by cases hp
 | q :: l, last, h, h1, p, hp => by
  simp only [Qkg, Bool.and_eq_true, Qfu] at h
  rcases List.mem_cons.1 hp with rfl | hp
  ·exact ⟨h.1.2, h.1.1⟩
  ·have := Qsv l q.Gain h.2 (by omega) p hp
   exact ⟨this.1, by omega⟩
theorem Qud (N : Nat) (k : Int → Option Int) : ∀ (l : List GPart) (last m a : Int), Qkg last l = true → last ≤ 1000 → 0 ≤ m →
  Qcb N k (Qy7 l m) (w64 a) = k (w64 (a + powI l m))
 | [], _, _, _, _, _, _ => by simp [Qy7, Qcb, powI]
 | p :: l, last, m, a, h, h1, h2 => by
  simp only [Qkg, Bool.and_eq_true, Qfu] at h
  obtain ⟨⟨h3, h4⟩, h5⟩ := h
  rw [Qy7, Qcb]
  dsimp only
  have := Qsq (x := min m p.Width) (g := p.Gain) (by omega) (by omega) (by omega) (by omega)
  rw [Int.mul_comm, Qa6 (show -9223372036854775808 ≤ min m p.Width * p.Gain by omega) (by omega), Qij, Qud N k l p.Gain _ _ h5 (by omega) (by omega), powI, Int.add_assoc]
theorem powP_eq {N : Nat} {u : GUnit} {m : Int} (h : Qjx u = true) (hN : 100 ≤ N) (h0 : 0 ≤ m) (hm : m ≤ 9223372036854775807) : Qe6 N u m = some (powI u.Parts m) := by
 obtain ⟨_, h1, h2⟩ := Qev h
 have hb := Qoj _ _ m h2 (Int.le_refl _) h0
 have hu := used_loop N u.Parts (by omega) (fun p hp => (Qsv _ _ h2 (Int.le_refl _) p hp).1) N 0 m (by simp; omega) h0 hm
 rw [show ((0 : Nat) : Int) = 0 from rfl, List.drop_zero] at hu
 have hr := Qud N (fun y1 => some y1) u.Parts 1000 m 0 h2 (Int.le_refl _) h0
 rw [Qpa, Int.zero_add, Qa6 (by omega) (by omega)] at hr
 unfold Qe6
 simp only [Qbr, Qgk, Qgj, Option.bind_some, hu, hr]
theorem powR_loop (N : Nat) (u : GUnit) (k : Int → Option Int) (hl : u.Parts.length ≤ 1000) : ∀ (n i : Nat) (last m a : Int), (u.Parts.drop i).length < n → Qkg last (u.Parts.drop i) = true → last ≤ 1000 → 0 ≤ m → m ≤ 9223372036854775807 →
  Qd0 N u k n m (w64 a) i = k (w64 (a + powI (u.Parts.drop i) m)) := by
 intro n
 induction n with
 | zero => intro i _ _ _ h; exact absurd h (Nat.not_lt_zero _)
 | succ n ih =>
  intro i last m a h hf hla h0 h1
  rw [Qd0]
  cases hd : u.Parts.drop i with
  | nil =>
   have := Qe4 hd
   simp [show ¬ ((i : Int) < u.Parts.length) from by omega, powI]
  | cons p l =>
   obtain ⟨hg, hd', hlt⟩ := Qeb hd
   rw [hd] at hf
   simp only [Qkg, Bool.and_eq_true, Qfu] at hf
   obtain ⟨⟨h3, h4⟩, h5⟩ := hf
   have e1 : w64 ((i : Int) + 1) = ((i + 1 : Nat) : Int) := Qa6 (by omega) (by omega)
   have e2 : (if p.Width < m then p.Width else m) = min m p.Width := by split <;> omega
   have e3 : w64 (m - min m p.Width) = m - min m p.Width := Qa6 (by omega) (by omega)
   have := Qsq (x := min m p.Width) (g := p.Gain) (by omega) (by omega) (by omega) (by omega)
   have e4 : w64 (min m p.Width * p.Gain) = min m p.Width * p.Gain := Qa6 (by omega) (by omega)
   simp only [show decide ((i : Int) < u.Parts.length) = true from by simpa using hlt, cond_true, Qcv hg, Option.bind_some, e1, e2, e3, e4, Qij]
   rw [ih (i + 1) p.Gain _ _ (by rw [hd']; rw [hd] at h; simp at h; omega) (by rw [hd']; exact h5) (by omega) (by omega) (by omega), hd', powI, Int.add_assoc]
theorem powR_eq {N : Nat} {u : GUnit} {m : Int} (h : Qjx u = true) (hN : 100 ≤ N) (h0 : 0 ≤ m) (hm : m ≤ 9223372036854775807) : Qir N u m = some (powI u.Parts m) := by
 obtain ⟨_, h1, h2⟩ := Qev h
 have hb := Qoj _ _ m h2 (Int.le_refl _) h0
 unfold Qir
 simp only [Qbr]
 have := powR_loop N u (fun y1 => some y1) (by omega) N 0 1000 m 0 (by simp; omega) (by simpa using h2) (Int.le_refl _) h0 hm
 rw [show ((0 : Nat) : Int) = 0 from rfl, List.drop_zero, Qpa, Int.zero_add, Qa6 (by omega) (by omega)] at this
 exact this
end Go.Proofs.Ytlhakkkjgdbdpaa
