/-
  Plain Lean: the shares of a stream, and what holds of them. No program in sight.
-/
import Derived.Test.YtenpbiineblcjaaSumB
namespace Go.Proofs.Ytenpbiineblcjaa

theorem idx_nodup (n : Nat) : (idx n).Nodup := by
  unfold idx
  refine List.Pairwise.map _ (fun a b h => ?_) (List.nodup_range (n := n))
  omega
theorem rankL_nodup (key : Int → Int) (ls : List Int) : (rankL key ls).Nodup := (isort_perm _ _).nodup_iff.2 (idx_nodup _)

theorem foldl_bump_get : ∀ (is l : List Int), is.Nodup → (∀ x ∈ is, 0 ≤ x ∧ x < l.length) → ∀ i : Nat, i < l.length → (is.foldl bump l)[i]? = some (l.getD i 0 + if (i : Int) ∈ is then 1 else 0)
  | [], l, _, _, i, hi => by simp [List.getD_eq_getElem?_getD, hi]
  | x :: is, l, hn, hb, i, hi => by
    obtain ⟨hx, hn'⟩ := List.nodup_cons.1 hn
    have hbx := hb x (by simp)
    have ih := foldl_bump_get is (bump l x) hn' (fun y hy => by rw [bump_length]; exact hb y (by simp [hy])) i (by rw [bump_length]; exact hi)
    rw [List.foldl_cons, ih]
    congr 1
    by_cases e : (i : Int) = x
    · subst e
      have h1 : (bump l (i : Int)).getD i 0 = l.getD i 0 + 1 := by
        unfold bump
        rw [Int.toNat_natCast, List.getD_eq_getElem?_getD, List.getElem?_set_self hi]
        rfl
      rw [h1, if_neg hx, if_pos (by simp)]
      omega
    · have h1 : (bump l x).getD i 0 = l.getD i 0 := by
        unfold bump
        rw [List.getD_eq_getElem?_getD, List.getElem?_set_ne (by omega), ← List.getD_eq_getElem?_getD]
      rw [h1]
      have : ((i : Int) ∈ x :: is) ↔ ((i : Int) ∈ is) := by simp [e]
      simp only [this]

theorem sumI_bump {l : List Int} {x : Int} (h0 : 0 ≤ x) (h1 : x < l.length) : sumI (bump l x) = sumI l + 1 := by
  obtain ⟨i, rfl⟩ := Int.eq_ofNat_of_zero_le h0
  have hi : i < l.length := by omega
  unfold bump
  rw [Int.toNat_natCast, List.getD_eq_getElem?_getD, List.getElem?_eq_getElem hi]
  simp only [Option.getD_some]
  clear h0 h1
  induction l generalizing i with
  | nil => simp at hi
  | cons y l ih =>
    cases i with
    | zero => simp [sumI]; omega
    | succ i =>
      have := ih i (by simpa using hi)
      simp only [List.set_cons_succ, sumI, List.getElem_cons_succ]
      omega
theorem sumI_foldl_bump : ∀ (is l : List Int), (∀ x ∈ is, 0 ≤ x ∧ x < l.length) → sumI (is.foldl bump l) = sumI l + is.length
  | [], l, _ => by simp
  | x :: is, l, h => by
    rw [List.foldl_cons, sumI_foldl_bump is (bump l x) (fun y hy => by rw [bump_length]; exact h y (by simp [hy])), sumI_bump (h x (by simp)).1 (h x (by simp)).2]
    simp only [List.length_cons]
    omega

theorem take_rank_bd {key : Int → Int} {ls : List Int} {n : Nat} : ∀ x ∈ (rankL key ls).take n, 0 ≤ x ∧ x < ls.length := fun _ hx => rankL_mem (List.mem_of_mem_take hx)

theorem massesL_sum {mass : Int} {ws : List Int} (h : WtsB ws) (h0 : 0 ≤ mass) : sumI (massesL mass ws) = mass := by
  have hb := left_bd h h0
  rw [massesL, sumI_foldl_bump _ _ (fun x hx => by rw [baseL_length]; exact take_rank_bd x hx), List.length_take, rankL_length]
  unfold leftL at *
  omega

theorem massesL_get {mass : Int} {ws : List Int} (i : Nat) (w : Int) (hw : ws[i]? = some w) : ∃ m, (massesL mass ws)[i]? = some m ∧ (m = mass * w / sumI ws ∨ m = mass * w / sumI ws + 1) := by
  have hi : i < ws.length := (List.getElem?_eq_some_iff.1 hw).1
  have := foldl_bump_get ((rankL (remKey mass ws) ws).take (leftL mass ws).toNat) (baseL mass ws) ((rankL_nodup _ _).sublist (List.take_sublist _ _)) (fun x hx => by rw [baseL_length]; exact take_rank_bd x hx) i (by rw [baseL_length]; exact hi)
  have hb : (baseL mass ws).getD i 0 = mass * w / sumI ws := by simp [baseL, List.getD_eq_getElem?_getD, hw]
  rw [hb] at this
  refine ⟨_, this, ?_⟩
  split
  · exact .inr rfl
  · exact .inl (by omega)

theorem massesL_bd {mass : Int} {ws : List Int} (h : WtsB ws) (h0 : 0 ≤ mass) : ∀ m ∈ massesL mass ws, 0 ≤ m ∧ m ≤ mass := by
  intro m hm
  have hnn : ∀ x ∈ massesL mass ws, 0 ≤ x := fun x hx => by
    obtain ⟨i, hi⟩ := List.mem_iff_getElem?.1 hx
    have hil : i < ws.length := by have := (List.getElem?_eq_some_iff.1 hi).1; rwa [massesL_length] at this
    obtain ⟨m', h1, h2⟩ := massesL_get (mass := mass) i ws[i] (List.getElem?_eq_getElem hil)
    rw [hi] at h1
    cases h1
    have := (base_bd h h0 (List.getElem_mem hil)).1
    omega
  refine ⟨hnn m hm, ?_⟩
  have hs := massesL_sum h h0
  obtain ⟨i, hi⟩ := List.mem_iff_getElem?.1 hm
  have h1 := sumI_take_le hnn (i + 1)
  rw [List.take_add_one, hi] at h1
  have h2 := sumI_snoc ((massesL mass ws).take i) m
  have h3 := sumI_nonneg (l := (massesL mass ws).take i) (fun x hx => hnn x (List.mem_of_mem_take hx))
  simp only [Option.toList] at h1
  omega

/-- A part of a stream. -/
def partOf (s : StrT) (m : Int) : StrT := ⟨m, s.H * m / max 1 s.M, s.S * m / max 1 s.M, s.G * m / max 1 s.M⟩
def partsL (s : StrT) (ws : List Int) : List StrT := (massesL s.M ws).map (partOf s)
def wtsOk (ws : List Int) : Bool := decide (ws.length ≤ 20) && (ws.all (fun w => inB w 0 1000) && ws.any (fun w => decide (0 < w)))
structure LossT where
  H : Int
  S : Int
  G : Int
def lostL (s : StrT) (ws : List Int) : LossT := ⟨s.H - (sumStr (partsL s ws)).H, s.S - (sumStr (partsL s ws)).S, s.G - (sumStr (partsL s ws)).G⟩
/-- Share: the parts, the loss and the error. -/
def shareR (s : StrT) (ws : List Int) : List StrT × LossT × Int := if strOk s && wtsOk ws then (partsL s ws, lostL s ws, 0) else ([], ⟨0, 0, 0⟩, 1)

theorem wtsOk_iff {ws : List Int} : wtsOk ws = true ↔ WtsB ws := by
  constructor
  · intro h
    simp only [wtsOk, Bool.and_eq_true, decide_eq_true_eq] at h
    obtain ⟨h1, h2, h3⟩ := h
    have h2' : ∀ w ∈ ws, 0 ≤ w ∧ w ≤ 1000 := fun w hw => inB_iff.1 (List.all_eq_true.1 h2 w hw)
    refine ⟨h1, h2', ?_⟩
    obtain ⟨w, hw, h4⟩ := List.any_eq_true.1 h3
    simp at h4
    obtain ⟨k, hk⟩ := List.mem_iff_getElem?.1 hw
    have h5 := sumI_take_le (l := ws) (fun x hx => (h2' x hx).1) (k + 1)
    rw [List.take_add_one, hk] at h5
    have h6 := sumI_snoc (ws.take k) w
    have h7 := sumI_nonneg (l := ws.take k) (fun x hx => (h2' x (List.mem_of_mem_take hx)).1)
    simp only [Option.toList] at h5
    omega
  · intro h
    simp only [wtsOk, Bool.and_eq_true, decide_eq_true_eq]
    refine ⟨h.len, List.all_eq_true.2 (fun w hw => inB_iff.2 (h.all w hw)), ?_⟩
    rw [List.any_eq_true]
    apply Classical.byContradiction
    intro hn
    have h0 : ∀ w ∈ ws, w ≤ 0 := fun w hw => by
      apply Classical.byContradiction
      intro hw'
      exact hn ⟨w, hw, by simp; omega⟩
    have := sumI_le h0
    have := h.some
    omega

theorem part_bd {n m M : Int} (hm : 0 ≤ m) (hmM : m ≤ M) (hn : 0 ≤ n) : 0 ≤ n * m / max 1 M ∧ n * m / max 1 M ≤ n := by
  have hM : 1 ≤ max 1 M := by omega
  refine ⟨Int.ediv_nonneg (Int.mul_nonneg hn hm) (by omega), Int.ediv_le_of_le_mul (by omega) ?_⟩
  exact Int.mul_le_mul_of_nonneg_left (by omega) hn

theorem partOf_in {s : StrT} {m : Int} (hs : StrB s) (hm : 0 ≤ m) (hmM : m ≤ s.M) : StrIn 100000000000 (partOf s m) := by
  obtain ⟨m0, m1, h0, h1, s0, s1, g0, g1⟩ := hs
  have a := part_bd hm hmM h0
  have b := part_bd hm hmM s0
  have c := part_bd hm hmM g0
  simp only [StrIn, partOf]
  omega

end Go.Proofs.Ytenpbiineblcjaa
