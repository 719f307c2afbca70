/-
  Plain Lean: what layer 1 (steam) computes: rows, streams, flashes, validity. No program in sight, no conditions.
-/
namespace Go.Proofs.Ytenpbiineblcjaa

/-- The number is from low to high, as a Bool of its own. -/
def inB (n lo hi : Int) : Bool := decide (lo ≤ n) && decide (n ≤ hi)
theorem inB_iff {n lo hi : Int} : inB n lo hi = true ↔ lo ≤ n ∧ n ≤ hi := by simp [inB]
theorem inB_of {n lo hi : Int} (h : lo ≤ n) (h' : n ≤ hi) : inB n lo hi = true := inB_iff.2 ⟨h, h'⟩
theorem inB_not {n lo hi : Int} (h : ¬ (lo ≤ n ∧ n ≤ hi)) : inB n lo hi = false := by
  cases e : inB n lo hi
  · rfl
  · exact absurd (inB_iff.1 e) h

theorem mul_bd {a b A B : Int} (ha : 0 ≤ a) (hA : a ≤ A) (hb : 0 ≤ b) (hB : b ≤ B) : 0 ≤ a * b ∧ a * b ≤ A * B :=
  ⟨Int.mul_nonneg ha hb, Int.mul_le_mul hA hB hb (Int.le_trans ha hA)⟩

/-- A row of the table: T, P, Liquid, Vapour, Silica. -/
@[ext] structure RowT where
  T : Int
  P : Int
  L : Int
  V : Int
  S : Int
deriving DecidableEq
/-- A stream: Mass, Heat, Silica, Gas. -/
@[ext] structure StrT where
  M : Int
  H : Int
  S : Int
  G : Int
deriving DecidableEq
/-- What a flash makes. -/
@[ext] structure PartT where
  st : StrT
  wa : StrT
  rest : Int
  scale : Int
deriving DecidableEq

def StrT.zero : StrT := ⟨0, 0, 0, 0⟩

structure RowB (r : RowT) : Prop where
  t0 : 0 ≤ r.T
  t1 : r.T ≤ 400
  p0 : 1 ≤ r.P
  p1 : r.P ≤ 10000
  l0 : 0 ≤ r.L
  lv : r.L < r.V
  v1 : r.V ≤ 4000
  s0 : 0 ≤ r.S
  s1 : r.S ≤ 2000

structure StrB (s : StrT) : Prop where
  m0 : 0 ≤ s.M
  m1 : s.M ≤ 1000000
  h0 : 0 ≤ s.H
  h1 : s.H ≤ 4000 * s.M
  s0 : 0 ≤ s.S
  s1 : s.S ≤ 10000 * s.M
  g0 : 0 ≤ s.G
  g1 : s.G ≤ 1000000000

def rowOk (r : RowT) : Bool := inB r.T 0 400 && inB r.P 1 10000 && inB r.L 0 4000 && inB r.S 0 2000 && decide (r.L < r.V) && decide (r.V ≤ 4000)
def strOk (s : StrT) : Bool := inB s.M 0 1000000 && inB s.H 0 (4000 * s.M) && inB s.S 0 (10000 * s.M) && inB s.G 0 1000000000

theorem rowOk_iff {r : RowT} : rowOk r = true ↔ RowB r := by
  constructor
  · intro h
    simp [rowOk, inB] at h
    obtain ⟨⟨⟨⟨⟨a, b⟩, c⟩, d⟩, e⟩, f⟩ := h
    exact ⟨a.1, a.2, b.1, b.2, c.1, e, f, d.1, d.2⟩
  · rintro ⟨a1, a2, b1, b2, c1, e, f, d1, d2⟩
    simp [rowOk, inB]
    omega
theorem strOk_iff {s : StrT} : strOk s = true ↔ StrB s := by
  constructor
  · intro h
    simp [strOk, inB] at h
    obtain ⟨⟨⟨a, b⟩, c⟩, d⟩ := h
    exact ⟨a.1, a.2, b.1, b.2, c.1, c.2, d.1, d.2⟩
  · rintro ⟨a1, a2, b1, b2, c1, c2, d1, d2⟩
    simp [strOk, inB]
    omega

/-- The next row lies above. -/
def stepOk (o r : RowT) : Bool := !(decide (r.T ≤ o.T) || decide (r.P ≤ o.P) || decide (r.L ≤ o.L) || decide (r.S < o.S))
def steps : List RowT → Bool
  | a :: b :: l => stepOk a b && steps (b :: l)
  | _ => true
def tabOk (t : List RowT) : Bool := inB t.length 2 20 && (t.all rowOk && steps t)

/-- How much becomes steam. -/
def steamOf (f : RowT) (s : StrT) : Int := if s.H - s.M * f.L ≤ 0 then 0 else if s.M * f.V ≤ s.H then s.M else (s.H - s.M * f.L) / (f.V - f.L)

/-- Steam and water ahead of the silica. -/
def splitOf (f : RowT) (s : StrT) : StrT × StrT :=
  if steamOf f s = 0 then (.zero, s)
  else if steamOf f s = s.M then (⟨steamOf f s, s.H, 0, s.G⟩, .zero)
  else (⟨steamOf f s, steamOf f s * f.V, 0, s.G⟩, ⟨s.M - steamOf f s, s.H - steamOf f s * f.V, 0, 0⟩)
/-- The silica that the water holds. -/
def heldOf (f : RowT) (s : StrT) : Int := min s.S ((splitOf f s).2.M * f.S)
def flashOf (f : RowT) (s : StrT) : PartT :=
  { st := (splitOf f s).1
    wa := { (splitOf f s).2 with S := heldOf f s }
    rest := if 0 < (splitOf f s).2.M then max 0 ((splitOf f s).2.H - (splitOf f s).2.M * f.L) else 0
    scale := s.S - heldOf f s }

theorem steamOf_bd {f : RowT} {s : StrT} (hf : RowB f) (hs : StrB s) : 0 ≤ steamOf f s ∧ steamOf f s ≤ s.M := by
  obtain ⟨_, _, _, _, l0, lv, v1, _, _⟩ := hf
  obtain ⟨m0, m1, h0, h1, _, _, _, _⟩ := hs
  unfold steamOf
  split
  · exact ⟨by omega, m0⟩
  · split
    · exact ⟨m0, Int.le_refl _⟩
    · refine ⟨Int.ediv_nonneg (by omega) (by omega), Int.le_of_lt ?_⟩
      refine Int.ediv_lt_of_lt_mul (by omega) ?_
      rw [Int.mul_sub]
      omega

/-- Where there are both, the steam's heat is at most the stream's, and the water has at least its own. -/
theorem steamOf_heat {f : RowT} {s : StrT} (h1 : steamOf f s ≠ 0) (h2 : steamOf f s ≠ s.M) :
    0 < s.H - s.M * f.L ∧ s.H < s.M * f.V ∧ steamOf f s = (s.H - s.M * f.L) / (f.V - f.L) := by
  unfold steamOf at *
  split at h1
  · exact absurd rfl h1
  · rename_i hn
    rw [if_neg hn] at h2 ⊢
    split at h2
    · exact absurd rfl h2
    · rename_i hv
      rw [if_neg hv]
      exact ⟨by omega, by omega, rfl⟩

theorem mid_heat {f : RowT} {s : StrT} (hf : RowB f) (h1 : steamOf f s ≠ 0) (h2 : steamOf f s ≠ s.M) :
    (s.M - steamOf f s) * f.L ≤ s.H - steamOf f s * f.V ∧ s.H - steamOf f s * f.V - (s.M - steamOf f s) * f.L < f.V - f.L := by
  obtain ⟨a, b, c⟩ := steamOf_heat h1 h2
  have lv := hf.lv
  generalize hm : steamOf f s = m at *
  have d1 := Int.mul_ediv_self_le (x := s.H - s.M * f.L) (k := f.V - f.L) (by omega)
  have d2 := Int.lt_mul_ediv_self_add (x := s.H - s.M * f.L) (k := f.V - f.L) (by omega)
  rw [← c, Int.sub_mul] at d1 d2
  rw [Int.sub_mul, Int.mul_comm m f.V, Int.mul_comm m f.L]
  rw [Int.mul_comm f.V m, Int.mul_comm f.L m] at *
  omega

theorem flash0 {f : RowT} {s : StrT} (h : steamOf f s = 0) : flashOf f s = ⟨⟨0, 0, 0, 0⟩, ⟨s.M, s.H, min s.S (s.M * f.S), s.G⟩, if 0 < s.M then max 0 (s.H - s.M * f.L) else 0, s.S - min s.S (s.M * f.S)⟩ := by
  simp [flashOf, heldOf, splitOf, h, StrT.zero]
theorem flash1 {f : RowT} {s : StrT} (h : steamOf f s = s.M) (h0 : s.M ≠ 0) : flashOf f s = ⟨⟨s.M, s.H, 0, s.G⟩, ⟨0, 0, min s.S 0, 0⟩, 0, s.S - min s.S 0⟩ := by
  simp [flashOf, heldOf, splitOf, h, h0, StrT.zero]
theorem flash2 {f : RowT} {s : StrT} {m : Int} (h : steamOf f s = m) (h0 : m ≠ 0) (h1 : m ≠ s.M) : flashOf f s = ⟨⟨m, m * f.V, 0, s.G⟩, ⟨s.M - m, s.H - m * f.V, min s.S ((s.M - m) * f.S), 0⟩,
    if 0 < s.M - m then max 0 (s.H - m * f.V - (s.M - m) * f.L) else 0, s.S - min s.S ((s.M - m) * f.S)⟩ := by
  simp [flashOf, heldOf, splitOf, h, h0, h1]

theorem steps_iff : ∀ (t : List RowT), steps t = true ↔ ∀ k a b, t[k]? = some a → t[k + 1]? = some b → stepOk a b = true
  | [] => by simp [steps]
  | [x] => by
    simp only [steps, true_iff]
    intro k a b _ h2
    simp at h2
  | x :: y :: l => by
    rw [steps, Bool.and_eq_true, steps_iff (y :: l)]
    constructor
    · rintro ⟨h1, h2⟩ k a b ha hb
      cases k with
      | zero => simp at ha hb; subst ha; subst hb; exact h1
      | succ k => exact h2 k a b (by simpa using ha) (by simpa using hb)
    · intro h
      exact ⟨h 0 x y rfl rfl, fun k a b ha hb => h (k + 1) a b (by simpa using ha) (by simpa using hb)⟩

theorem steps_false {t : List RowT} {k : Nat} {a b : RowT} (ha : t[k]? = some a) (hb : t[k + 1]? = some b) (h : stepOk a b = false) : steps t = false := by
  cases e : steps t
  · rfl
  · have := (steps_iff t).1 e k a b ha hb
    rw [h] at this
    cases this

def RowT.zero : RowT := ⟨0, 0, 0, 0, 0⟩
def PartT.zero : PartT := ⟨.zero, .zero, 0, 0⟩
def rowAt (t : List RowT) (level : Int) : RowT := t.getD level.toNat .zero

/-- Flash: the parts and the error. -/
def flashR (t : List RowT) (level : Int) (s : StrT) : PartT × Int :=
  if tabOk t = false then (.zero, 1) else if inB level 0 (t.length - 1) = false then (.zero, 2) else if strOk s = false then (.zero, 1) else (flashOf (rowAt t level) s, 0)

theorem tabOk_len {t : List RowT} (h : tabOk t = true) : 2 ≤ t.length ∧ t.length ≤ 20 := by
  simp only [tabOk, Bool.and_eq_true, inB_iff] at h
  omega
theorem tabOk_row {t : List RowT} (h : tabOk t = true) {k : Nat} {r : RowT} (hk : t[k]? = some r) : RowB r := by
  simp only [tabOk, Bool.and_eq_true] at h
  exact rowOk_iff.1 (List.all_eq_true.1 h.2.1 r (List.mem_of_getElem? hk))
theorem rowAt_get {t : List RowT} {level : Int} (h0 : 0 ≤ level) (h1 : level ≤ t.length - 1) : t[level.toNat]? = some (rowAt t level) := by
  have : level.toNat < t.length := by omega
  rw [rowAt, List.getD_eq_getElem?_getD, List.getElem?_eq_getElem this]
  rfl

end Go.Proofs.Ytenpbiineblcjaa
