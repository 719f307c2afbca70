/-
  Plain Lean: what parts get of a mass. No program in sight.
-/
import Derived.Test.YtenpbiineblcjaaRank
namespace Go.Proofs.Ytenpbiineblcjaa

def sumI : List Int → Int
  | [] => 0
  | x :: l => x + sumI l
theorem sumI_append (l m : List Int) : sumI (l ++ m) = sumI l + sumI m := by
  induction l with
  | nil => simp [sumI]
  | cons x l ih => simp [sumI, ih]; omega
theorem sumI_snoc (l : List Int) (x : Int) : sumI (l ++ [x]) = sumI l + x := by rw [sumI_append]; simp [sumI]
theorem sumI_nonneg {l : List Int} (h : ∀ x ∈ l, 0 ≤ x) : 0 ≤ sumI l := by
  induction l with
  | nil => simp [sumI]
  | cons x l ih =>
    have := h x (by simp)
    have := ih (fun y hy => h y (by simp [hy]))
    simp only [sumI]
    omega
theorem sumI_le {l : List Int} {c : Int} (h : ∀ x ∈ l, x ≤ c) : sumI l ≤ c * l.length := by
  induction l with
  | nil => simp [sumI]
  | cons x l ih =>
    have := h x (by simp)
    have := ih (fun y hy => h y (by simp [hy]))
    simp only [sumI, List.length_cons, Int.natCast_add, Int.mul_add]
    omega
theorem sumI_take_le {l : List Int} (h : ∀ x ∈ l, 0 ≤ x) (k : Nat) : sumI (l.take k) ≤ sumI l := by
  have e := sumI_append (l.take k) (l.drop k)
  rw [List.take_append_drop] at e
  have := sumI_nonneg (l := l.drop k) (fun x hx => h x (List.mem_of_mem_drop hx))
  omega
theorem sumI_map_mul (m : Int) (l : List Int) : sumI (l.map (fun w => m * w)) = m * sumI l := by
  induction l with
  | nil => simp [sumI]
  | cons x l ih => simp [sumI, ih, Int.mul_add]
theorem sumI_map_add (f g : Int → Int) (l : List Int) : sumI (l.map (fun w => f w + g w)) = sumI (l.map f) + sumI (l.map g) := by
  induction l with
  | nil => simp [sumI]
  | cons x l ih => simp [sumI, ih]; omega

/-- What the weights must be. -/
structure WtsB (ws : List Int) : Prop where
  len : ws.length ≤ 20
  all : ∀ w ∈ ws, 0 ≤ w ∧ w ≤ 1000
  some : 0 < sumI ws

def baseL (mass : Int) (ws : List Int) : List Int := ws.map (fun w => mass * w / sumI ws)
def leftL (mass : Int) (ws : List Int) : Int := mass - sumI (baseL mass ws)
def remKey (mass : Int) (ws : List Int) (w : Int) : Int := mass * w % sumI ws
/-- One more for each of the first ones in rank. -/
def bump (l : List Int) (i : Int) : List Int := l.set i.toNat (l.getD i.toNat 0 + 1)
def massesL (mass : Int) (ws : List Int) : List Int := ((rankL (remKey mass ws) ws).take (leftL mass ws).toNat).foldl bump (baseL mass ws)

theorem baseL_length (mass : Int) (ws : List Int) : (baseL mass ws).length = ws.length := by simp [baseL]
theorem bump_length (l : List Int) (i : Int) : (bump l i).length = l.length := by simp [bump]
theorem foldl_bump_length (is : List Int) : ∀ l : List Int, (is.foldl bump l).length = l.length := by
  induction is with
  | nil => intro l; rfl
  | cons i is ih => intro l; rw [List.foldl_cons, ih, bump_length]
theorem massesL_length (mass : Int) (ws : List Int) : (massesL mass ws).length = ws.length := by rw [massesL, foldl_bump_length, baseL_length]

theorem WtsB.whole {ws : List Int} (h : WtsB ws) : 1 ≤ sumI ws ∧ sumI ws ≤ 20000 := by
  have h1 := sumI_le (l := ws) (c := 1000) (fun x hx => (h.all x hx).2)
  have h2 := h.len
  have h3 := h.some
  have : (1000 : Int) * ws.length ≤ 1000 * 20 := by omega
  omega

theorem left_bd {mass : Int} {ws : List Int} (h : WtsB ws) (_h0 : 0 ≤ mass) : 0 ≤ leftL mass ws ∧ leftL mass ws < ws.length := by
  obtain ⟨w1, w2⟩ := h.whole
  have e1 : sumI (ws.map (fun w => mass * w)) = mass * sumI ws := sumI_map_mul mass ws
  have e2 : sumI (ws.map (fun w => mass * w)) = sumI (ws.map (fun w => sumI ws * (mass * w / sumI ws))) + sumI (ws.map (fun w => mass * w % sumI ws)) := by
    rw [← sumI_map_add]
    congr 1
    apply List.map_congr_left
    intro w _
    exact (Int.mul_ediv_add_emod _ _).symm
  have e3 : sumI (ws.map (fun w => sumI ws * (mass * w / sumI ws))) = sumI ws * sumI (baseL mass ws) := by
    have := sumI_map_mul (sumI ws) (baseL mass ws)
    rw [baseL, List.map_map] at this
    exact this
  have e4 : 0 ≤ sumI (ws.map (fun w => mass * w % sumI ws)) := sumI_nonneg fun x hx => by
    obtain ⟨w, _, rfl⟩ := List.mem_map.1 hx
    exact Int.emod_nonneg _ (by omega)
  have e5 : sumI (ws.map (fun w => mass * w % sumI ws)) ≤ (sumI ws - 1) * (ws.map (fun w => mass * w % sumI ws)).length := sumI_le fun x hx => by
    obtain ⟨w, _, rfl⟩ := List.mem_map.1 hx
    have := Int.emod_lt_of_pos (mass * w) (show 0 < sumI ws by omega)
    omega
  rw [List.length_map] at e5
  rw [e1, e3] at e2
  have e6 : sumI ws * leftL mass ws = sumI (ws.map (fun w => mass * w % sumI ws)) := by
    rw [leftL, Int.mul_sub, Int.mul_comm (sumI ws) mass]
    omega
  rw [← e6] at e4 e5
  have hpos : 0 < ws.length := by
    cases ws with
    | nil => simp [sumI] at w1
    | cons => simp
  constructor
  · exact Int.nonneg_of_mul_nonneg_right e4 (by omega)
  · refine Int.lt_of_mul_lt_mul_left (a := sumI ws) ?_ (by omega)
    refine Int.lt_of_le_of_lt e5 ?_
    refine Int.mul_lt_mul_of_pos_right (by omega) (by omega)

theorem base_bd {mass w : Int} {ws : List Int} (h : WtsB ws) (h0 : 0 ≤ mass) (hw : w ∈ ws) : 0 ≤ mass * w / sumI ws ∧ mass * w / sumI ws ≤ mass := by
  obtain ⟨w1, _⟩ := h.whole
  have a := h.all w hw
  have hle : w ≤ sumI ws := by
    obtain ⟨k, hk⟩ := List.mem_iff_getElem?.1 hw
    have h1 := sumI_take_le (l := ws) (fun x hx => (h.all x hx).1) (k + 1)
    rw [List.take_add_one, hk] at h1
    have h2 := sumI_snoc (ws.take k) w
    have h3 := sumI_nonneg (l := ws.take k) (fun x hx => (h.all x (List.mem_of_mem_take hx)).1)
    simp only [Option.toList] at h1
    omega
  refine ⟨Int.ediv_nonneg (Int.mul_nonneg h0 a.1) (by omega), Int.ediv_le_of_le_mul (by omega) ?_⟩
  exact Int.mul_le_mul_of_nonneg_left hle h0

theorem bump_bd {l : List Int} {c : Int} (h : ∀ x ∈ l, 0 ≤ x ∧ x ≤ c) (i : Int) (hc : 0 ≤ c) : ∀ x ∈ bump l i, 0 ≤ x ∧ x ≤ c + 1 := by
  intro x hx
  unfold bump at hx
  rcases List.mem_or_eq_of_mem_set hx with h1 | h1
  · have := h x h1; omega
  · subst h1
    cases e : l[i.toNat]? with
    | none => rw [List.getD_eq_getElem?_getD, e]; simp; omega
    | some y =>
      have := h y (List.mem_of_getElem? e)
      rw [List.getD_eq_getElem?_getD, e]
      simp
      omega
theorem foldl_bump_bd : ∀ (is : List Int) (l : List Int) (c : Int), (∀ x ∈ l, 0 ≤ x ∧ x ≤ c) → 0 ≤ c → ∀ x ∈ is.foldl bump l, 0 ≤ x ∧ x ≤ c + is.length
  | [], l, c, h, _ => by simpa using h
  | i :: is, l, c, h, hc => by
    intro x hx
    have := foldl_bump_bd is (bump l i) (c + 1) (bump_bd h i hc) (by omega) x hx
    simp only [List.length_cons, Int.natCast_add]
    omega
theorem rankL_mem {key : Int → Int} {ls : List Int} {x : Int} (h : x ∈ rankL key ls) : 0 ≤ x ∧ x < ls.length := idx_mem ((isort_perm _ _).mem_iff.1 h)
theorem baseL_bd {mass : Int} {ws : List Int} (h : WtsB ws) (h0 : 0 ≤ mass) : ∀ x ∈ baseL mass ws, 0 ≤ x ∧ x ≤ mass := by
  intro x hx
  obtain ⟨w, hw, rfl⟩ := List.mem_map.1 hx
  exact base_bd h h0 hw
theorem baseL_part {mass : Int} {ws : List Int} (h : WtsB ws) (h0 : 0 ≤ mass) (k : Nat) : 0 ≤ sumI ((baseL mass ws).take k) ∧ sumI ((baseL mass ws).take k) ≤ mass := by
  have h1 := sumI_take_le (l := baseL mass ws) (fun x hx => (baseL_bd h h0 x hx).1) k
  have h2 := sumI_nonneg (l := (baseL mass ws).take k) (fun x hx => (baseL_bd h h0 x (List.mem_of_mem_take hx)).1)
  have h3 := (left_bd h h0).1
  unfold leftL at h3
  omega
def outK (mass : Int) (ws : List Int) (k : Nat) : List Int := (baseL mass ws).take k ++ List.replicate (ws.length - k) 0
theorem outK_length {mass : Int} {ws : List Int} {k : Nat} (hk : k ≤ ws.length) : (outK mass ws k).length = ws.length := by
  simp [outK, baseL_length]; omega
theorem outK_get {mass : Int} {ws : List Int} {k : Nat} (hk : k < ws.length) : (outK mass ws k)[k]? = some 0 := by
  have hl : ((baseL mass ws).take k).length = k := by rw [List.length_take, baseL_length]; omega
  rw [outK, List.getElem?_append_right (by omega), hl, Nat.sub_self, List.getElem?_replicate, if_pos (by omega)]
theorem outK_set {mass : Int} {ws : List Int} {k : Nat} (hk : k < ws.length) : (outK mass ws k).set k (mass * ws[k] / sumI ws) = outK mass ws (k + 1) := by
  have hl : ((baseL mass ws).take k).length = k := by rw [List.length_take, baseL_length]; omega
  have hb : (baseL mass ws)[k]? = some (mass * ws[k] / sumI ws) := by simp [baseL, hk]
  rw [outK, outK, List.take_add_one, hb, List.set_append_right _ _ (by omega), hl, Nat.sub_self]
  obtain ⟨d, hd⟩ : ∃ d, ws.length - k = d + 1 := ⟨ws.length - k - 1, by omega⟩
  rw [hd, List.replicate_succ, List.set_cons_zero, show ws.length - (k + 1) = d by omega]
  simp

end Go.Proofs.Ytenpbiineblcjaa
