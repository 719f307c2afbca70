/-
  Plain Lean: a stable insertion sort, as slices.SortStableFunc does it on short lists. No program in sight, no conditions.
-/
namespace Go.Proofs.Ytenpbiineblcjaa

/-- x goes down past all that it is ahead of (the prefix is read from its end). -/
def insDown (lt : Int → Int → Bool) (x : Int) : List Int → List Int
  | [] => [x]
  | y :: r => if lt x y then y :: insDown lt x r else x :: y :: r
/-- The sorted list, read from its end. -/
def isortR (lt : Int → Int → Bool) (l : List Int) : List Int := l.foldl (fun p x => insDown lt x p) []
def isort (lt : Int → Int → Bool) (l : List Int) : List Int := (isortR lt l).reverse

theorem insDown_length (lt : Int → Int → Bool) (x : Int) : ∀ p, (insDown lt x p).length = p.length + 1
  | [] => rfl
  | y :: r => by
    unfold insDown
    split
    · simp [insDown_length lt x r]
    · simp

/-- Past the first m, and no further. -/
theorem insDown_stop (lt : Int → Int → Bool) (x : Int) : ∀ (m : Nat) (p : List Int), (∀ y ∈ p.take m, lt x y = true) → (∀ y, p[m]? = some y → lt x y = false) → m ≤ p.length → insDown lt x p = p.take m ++ x :: p.drop m
  | 0, [], _, _, _ => rfl
  | 0, y :: r, _, h, _ => by
    have := h y rfl
    simp [insDown, this]
  | m + 1, [], _, _, h => by simp at h
  | m + 1, y :: r, h1, h2, h3 => by
    have := h1 y (by simp)
    rw [insDown, if_pos this, insDown_stop lt x m r (fun z hz => h1 z (by simp [hz])) (fun z hz => h2 z (by simpa using hz)) (by simpa using h3)]
    rfl

theorem isortR_snoc (lt : Int → Int → Bool) (l : List Int) (x : Int) : isortR lt (l ++ [x]) = insDown lt x (isortR lt l) := by simp [isortR]
theorem isortR_length (lt : Int → Int → Bool) (l : List Int) : (isortR lt l).length = l.length := by
  suffices ∀ (l p : List Int), (l.foldl (fun p x => insDown lt x p) p).length = p.length + l.length by simpa [isortR] using this l []
  intro l
  induction l with
  | nil => simp
  | cons x l ih => intro p; simp [ih, insDown_length]; omega

theorem insDown_perm (lt : Int → Int → Bool) (x : Int) : ∀ p, (insDown lt x p).Perm (x :: p)
  | [] => List.Perm.refl _
  | y :: r => by
    unfold insDown
    split
    · exact ((insDown_perm lt x r).cons y).trans (List.Perm.swap x y r)
    · exact List.Perm.refl _
theorem isortR_perm (lt : Int → Int → Bool) (l : List Int) : (isortR lt l).Perm l := by
  suffices ∀ (l p : List Int), (l.foldl (fun p x => insDown lt x p) p).Perm (p ++ l) by simpa [isortR] using this l []
  intro l
  induction l with
  | nil => simp
  | cons x l ih =>
    intro p
    refine (ih _).trans ?_
    refine ((insDown_perm lt x p).append_right l).trans ?_
    simpa using List.perm_middle.symm
theorem isort_perm (lt : Int → Int → Bool) (l : List Int) : (isort lt l).Perm l := (List.reverse_perm _).trans (isortR_perm lt l)

/-- The array in the inner loop: x stands at place j, the m elements that it has passed behind it. -/
theorem sink_swap (pre : List Int) (y x : Int) (post : List Int) : ((pre ++ y :: x :: post).set (pre.length + 1) y).set pre.length x = pre ++ x :: y :: post := by
  simp

end Go.Proofs.Ytenpbiineblcjaa
