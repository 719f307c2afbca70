/-
  Plain Lean: the ranking is sorted (a greater key first, of equal ones the earlier place); who gets one more has a remainder; shares are valid, and little is lost. For right weights and valid streams.
-/
import Derived.Test.YtenpbiineblcjaaShareP
namespace Go.Proofs.Ytenpbiineblcjaa

/-- i stands ahead of k: a greater key, or the same and an earlier place. -/
def ahead (key : Int → Int) (ls : List Int) (i k : Int) : Prop := key (ls.getD k.toNat 0) < key (ls.getD i.toNat 0) ∨ (key (ls.getD k.toNat 0) = key (ls.getD i.toNat 0) ∧ i < k)

theorem insDown_sorted (key : Int → Int) (ls : List Int) (x : Int) : ∀ p : List Int, (∀ y ∈ p, y < x) → p.Pairwise (fun a b => ahead key ls b a) →
    (insDown (fun i k => decide (key (ls.getD k.toNat 0) - key (ls.getD i.toNat 0) < 0)) x p).Pairwise (fun a b => ahead key ls b a)
  | [], _, _ => by simp [insDown]
  | y :: r, hlt, hp => by
    rw [List.pairwise_cons] at hp
    unfold insDown
    by_cases h : key (ls.getD y.toNat 0) - key (ls.getD x.toNat 0) < 0
    · rw [if_pos (decide_eq_true h), List.pairwise_cons]
      refine ⟨fun z hz => ?_, insDown_sorted key ls x r (fun z hz => hlt z (List.mem_cons_of_mem _ hz)) hp.2⟩
      rcases List.mem_cons.1 ((insDown_perm _ x r).mem_iff.1 hz) with rfl | hz
      · exact .inl (by omega)
      · exact hp.1 z hz
    · rw [if_neg (by simpa using h), List.pairwise_cons, List.pairwise_cons]
      refine ⟨fun z hz => ?_, hp⟩
      rcases List.mem_cons.1 hz with rfl | hz
      · have h1 := hlt z List.mem_cons_self
        unfold ahead
        omega
      · have h1 := hlt z (List.mem_cons_of_mem _ hz)
        have h2 := hp.1 z hz
        unfold ahead at *
        omega

theorem isortR_sorted (key : Int → Int) (ls : List Int) : ∀ n, (isortR (fun i k => decide (key (ls.getD k.toNat 0) - key (ls.getD i.toNat 0) < 0)) (idx n)).Pairwise (fun a b => ahead key ls b a)
  | 0 => by simp [idx, isortR]
  | n + 1 => by
    rw [idx_succ, isortR_snoc]
    refine insDown_sorted key ls n _ (fun y hy => ?_) (isortR_sorted key ls n)
    exact (idx_mem ((isortR_perm _ _).mem_iff.1 hy)).2

theorem rankL_sorted (key : Int → Int) (ls : List Int) : (rankL key ls).Pairwise (ahead key ls) := by
  unfold rankL isort
  rw [List.pairwise_reverse]
  exact isortR_sorted key ls ls.length

theorem sumI_perm {l m : List Int} (h : l.Perm m) : sumI l = sumI m := by
  induction h with
  | nil => rfl
  | cons x _ ih => simp [sumI, ih]
  | swap x y l => simp only [sumI]; omega
  | trans _ _ ih1 ih2 => exact ih1.trans ih2

theorem idx_map (f : Int → Int) (ls : List Int) : (idx ls.length).map (fun j => f (ls.getD j.toNat 0)) = ls.map f := by
  apply List.ext_getElem
  · simp [idx]
  · intro i h1 h2
    simp [idx] at h1 h2 ⊢
    simp [h1]

theorem rem_sum {mass : Int} {ws : List Int} : sumI ws * leftL mass ws = sumI (ws.map (remKey mass ws)) := by
  have e1 : sumI (ws.map (fun w => mass * w)) = mass * sumI ws := sumI_map_mul mass ws
  have e2 : sumI (ws.map (fun w => mass * w)) = sumI (ws.map (fun w => sumI ws * (mass * w / sumI ws))) + sumI (ws.map (fun w => mass * w % sumI ws)) := by
    rw [← sumI_map_add]
    congr 1
    apply List.map_congr_left
    intro w _
    exact (Int.mul_ediv_add_emod _ _).symm
  have e3 : sumI (ws.map (fun w => sumI ws * (mass * w / sumI ws))) = sumI ws * sumI (baseL mass ws) := by
    have := sumI_map_mul (sumI ws) (baseL mass ws)
    rw [baseL, List.map_map] at this
    exact this
  rw [e1, e3] at e2
  rw [leftL, Int.mul_sub, Int.mul_comm (sumI ws) mass]
  have : sumI (ws.map (remKey mass ws)) = sumI (ws.map (fun w => mass * w % sumI ws)) := rfl
  omega

/-- Who gets one more has a remainder. -/
theorem top_rem {mass : Int} {ws : List Int} (h : WtsB ws) (h0 : 0 ≤ mass) {i : Int} (hi : i ∈ (rankL (remKey mass ws) ws).take (leftL mass ws).toNat) : 0 < remKey mass ws (ws.getD i.toNat 0) := by
  obtain ⟨w1, _⟩ := h.whole
  obtain ⟨b0, _⟩ := left_bd h h0
  have hnn : ∀ w, 0 ≤ remKey mass ws w := fun w => Int.emod_nonneg _ (by omega)
  have hlt : ∀ w, remKey mass ws w ≤ sumI ws - 1 := fun w => by
    have := Int.emod_lt_of_pos (mass * w) (show 0 < sumI ws by omega)
    unfold remKey
    omega
  apply Decidable.byContradiction
  intro hc
  have hz : remKey mass ws (ws.getD i.toNat 0) = 0 := by
    have := hnn (ws.getD i.toNat 0)
    omega
  have hsplit := List.take_append_drop (leftL mass ws).toNat (rankL (remKey mass ws) ws)
  have hs := rankL_sorted (remKey mass ws) ws
  rw [← hsplit, List.pairwise_append] at hs
  have hd : ∀ b ∈ (rankL (remKey mass ws) ws).drop (leftL mass ws).toNat, remKey mass ws (ws.getD b.toNat 0) = 0 := fun b hb => by
    have h1 := hs.2.2 i hi b hb
    have h2 := hnn (ws.getD b.toNat 0)
    unfold ahead at h1
    omega
  have e1 : sumI (ws.map (remKey mass ws)) = sumI ((rankL (remKey mass ws) ws).map (fun j => remKey mass ws (ws.getD j.toNat 0))) := by
    rw [← idx_map (remKey mass ws) ws]
    exact sumI_perm ((isort_perm _ _).symm.map _)
  have e2 : sumI (((rankL (remKey mass ws) ws).drop (leftL mass ws).toNat).map (fun j => remKey mass ws (ws.getD j.toNat 0))) = 0 := by
    have a := sumI_le (l := ((rankL (remKey mass ws) ws).drop (leftL mass ws).toNat).map (fun j => remKey mass ws (ws.getD j.toNat 0))) (c := 0) (fun x hx => by
      obtain ⟨b, hb, rfl⟩ := List.mem_map.1 hx
      rw [hd b hb]
      exact Int.le_refl 0)
    have b := sumI_nonneg (l := ((rankL (remKey mass ws) ws).drop (leftL mass ws).toNat).map (fun j => remKey mass ws (ws.getD j.toNat 0))) (fun x hx => by
      obtain ⟨b, _, rfl⟩ := List.mem_map.1 hx
      exact hnn _)
    omega
  have e3 := sumI_le (l := ((rankL (remKey mass ws) ws).take (leftL mass ws).toNat).map (fun j => remKey mass ws (ws.getD j.toNat 0))) (c := sumI ws - 1) (fun x hx => by
    obtain ⟨b, _, rfl⟩ := List.mem_map.1 hx
    exact hlt _)
  rw [← hsplit, List.map_append, sumI_append, e2, Int.add_zero] at e1
  have e4 := rem_sum (mass := mass) (ws := ws)
  have hlen : 0 < ((rankL (remKey mass ws) ws).take (leftL mass ws).toNat).length := List.length_pos_of_mem hi
  rw [List.length_map] at e3
  have hle : (((rankL (remKey mass ws) ws).take (leftL mass ws).toNat).length : Int) ≤ leftL mass ws := by
    rw [List.length_take]
    omega
  have e5 : (sumI ws - 1) * (((rankL (remKey mass ws) ws).take (leftL mass ws).toNat).length : Int) ≤ (sumI ws - 1) * leftL mass ws := Int.mul_le_mul_of_nonneg_left hle (by omega)
  have e6 : (sumI ws - 1) * leftL mass ws = sumI ws * leftL mass ws - leftL mass ws := by rw [Int.sub_mul, Int.one_mul]
  omega

/-- A mass differs by less than 1 from what is due. -/
theorem masses_far {mass : Int} {ws : List Int} (h : WtsB ws) (h0 : 0 ≤ mass) {i : Nat} {w m : Int} (hw : ws[i]? = some w) (hm : (massesL mass ws)[i]? = some m) : -sumI ws < m * sumI ws - mass * w ∧ m * sumI ws - mass * w < sumI ws := by
  obtain ⟨w1, _⟩ := h.whole
  have hi : i < ws.length := (List.getElem?_eq_some_iff.1 hw).1
  have hg := foldl_bump_get ((rankL (remKey mass ws) ws).take (leftL mass ws).toNat) (baseL mass ws) ((rankL_nodup _ _).sublist (List.take_sublist _ _)) (fun x hx => by rw [baseL_length]; exact take_rank_bd x hx) i (by rw [baseL_length]; exact hi)
  have hb : (baseL mass ws).getD i 0 = mass * w / sumI ws := by simp [baseL, List.getD_eq_getElem?_getD, hw]
  rw [hb] at hg
  have hm' : m = mass * w / sumI ws + if (i : Int) ∈ (rankL (remKey mass ws) ws).take (leftL mass ws).toNat then 1 else 0 := by
    have h1 : (massesL mass ws)[i]? = _ := hg
    rw [hm] at h1
    exact Option.some.inj h1
  have d1 := Int.mul_ediv_add_emod (mass * w) (sumI ws)
  have d2 := Int.emod_nonneg (mass * w) (show sumI ws ≠ 0 by omega)
  have d3 := Int.emod_lt_of_pos (mass * w) (show 0 < sumI ws by omega)
  by_cases hT : (i : Int) ∈ (rankL (remKey mass ws) ws).take (leftL mass ws).toNat
  · have ht := top_rem h h0 hT
    rw [Int.toNat_natCast, List.getD_eq_getElem?_getD, hw] at ht
    have ht' : 0 < mass * w % sumI ws := ht
    rw [if_pos hT] at hm'
    rw [hm', Int.add_mul, Int.mul_comm (mass * w / sumI ws)]
    omega
  · rw [if_neg hT, Int.add_zero] at hm'
    rw [hm', Int.mul_comm (mass * w / sumI ws)]
    omega

/-- A part of a valid stream is valid. -/
theorem part_le {n m M c : Int} (hM : 0 ≤ M) (hm : 0 ≤ m) (hmM : m ≤ M) (hn : n ≤ c * M) : n * m / max 1 M ≤ c * m := by
  by_cases h : M = 0
  · have : m = 0 := by omega
    subst this
    simp
  · rw [Int.max_eq_right (by omega)]
    have h1 : n * m ≤ c * M * m := Int.mul_le_mul_of_nonneg_right hn hm
    have h2 : c * M * m = c * m * M := by rw [Int.mul_assoc, Int.mul_comm M m, ← Int.mul_assoc]
    have h3 : n * m < (c * m + 1) * M := by rw [Int.add_mul, Int.one_mul]; omega
    have := Int.ediv_lt_of_lt_mul (by omega) h3
    omega
theorem partOf_ok {s : StrT} {m : Int} (hs : StrB s) (hm : 0 ≤ m) (hmM : m ≤ s.M) : strOk (partOf s m) = true := by
  obtain ⟨m0, m1, h0, h1, s0, s1, g0, g1⟩ := hs
  have a := part_bd hm hmM h0
  have b := part_bd hm hmM s0
  have c := part_bd hm hmM g0
  have d := part_le (c := 4000) m0 hm hmM h1
  have e := part_le (c := 10000) m0 hm hmM s1
  exact strOk_iff.2 ⟨hm, by show m ≤ 1000000; omega, a.1, d, b.1, e, c.1, by show s.G * m / max 1 s.M ≤ 1000000000; omega⟩

/-- What is lost in rounding down. -/
theorem lost_bd (n M : Int) (hM : 0 < M) : ∀ l : List Int, M * sumI (l.map (fun m => n * m / max 1 M)) ≤ n * sumI l ∧ n * sumI l ≤ M * sumI (l.map (fun m => n * m / max 1 M)) + (M - 1) * l.length
  | [] => by simp [sumI]
  | m :: l => by
    obtain ⟨a, b⟩ := lost_bd n M hM l
    have d1 := Int.mul_ediv_add_emod (n * m) M
    have d2 := Int.emod_nonneg (n * m) (show M ≠ 0 by omega)
    have d3 := Int.emod_lt_of_pos (n * m) hM
    simp only [List.map_cons, sumI, List.length_cons, Int.mul_add]
    rw [Int.max_eq_right (show 1 ≤ M by omega)] at *
    have e : (M - 1) * ((l.length + 1 : Nat) : Int) = (M - 1) * l.length + (M - 1) := by
      rw [show ((l.length + 1 : Nat) : Int) = (l.length : Int) + 1 from rfl, Int.mul_add, Int.mul_one]
    rw [e]
    omega
theorem lost_range {n M : Int} {l : List Int} (hM : 0 < M) (hs : sumI l = M) (hl : 0 < l.length) : 0 ≤ n - sumI (l.map (fun m => n * m / max 1 M)) ∧ n - sumI (l.map (fun m => n * m / max 1 M)) ≤ l.length - 1 := by
  obtain ⟨a, b⟩ := lost_bd n M hM l
  rw [hs, Int.mul_comm n M] at a b
  generalize sumI (l.map (fun m => n * m / max 1 M)) = x at *
  have a' : x ≤ n := Int.le_of_mul_le_mul_left a hM
  have b1 : M * (n - x) ≤ (M - 1) * l.length := by rw [Int.mul_sub]; omega
  have b2 : (M - 1) * (l.length : Int) < M * l.length := Int.mul_lt_mul_of_pos_right (by omega) (by omega)
  have b3 : n - x < l.length := Int.lt_of_mul_lt_mul_left (Int.lt_of_le_of_lt b1 b2) (by omega)
  omega

theorem sumStr_M (l : List StrT) : (sumStr l).M = sumI (l.map (·.M)) := by
  induction l with
  | nil => rfl
  | cons x l ih => simp [sumStr, addStr, sumI, ih]
theorem sumStr_H (l : List StrT) : (sumStr l).H = sumI (l.map (·.H)) := by
  induction l with
  | nil => rfl
  | cons x l ih => simp [sumStr, addStr, sumI, ih]
theorem sumStr_S (l : List StrT) : (sumStr l).S = sumI (l.map (·.S)) := by
  induction l with
  | nil => rfl
  | cons x l ih => simp [sumStr, addStr, sumI, ih]
theorem sumStr_G (l : List StrT) : (sumStr l).G = sumI (l.map (·.G)) := by
  induction l with
  | nil => rfl
  | cons x l ih => simp [sumStr, addStr, sumI, ih]

structure FairB (s : StrT) (ws : List Int) : Prop where
  len : (partsL s ws).length = ws.length
  mass : (sumStr (partsL s ws)).M = s.M
  heat : (sumStr (partsL s ws)).H + (lostL s ws).H = s.H
  sil : (sumStr (partsL s ws)).S + (lostL s ws).S = s.S
  gas : (sumStr (partsL s ws)).G + (lostL s ws).G = s.G
  lost : s.M = 0 ∨ (inB (lostL s ws).H 0 (ws.length - 1) = true ∧ inB (lostL s ws).S 0 (ws.length - 1) = true ∧ inB (lostL s ws).G 0 (ws.length - 1) = true)
  each : ∀ (i : Nat) (w : Int) (p : StrT), ws[i]? = some w → (partsL s ws)[i]? = some p → strOk p = true ∧ -sumI ws < p.M * sumI ws - s.M * w ∧ p.M * sumI ws - s.M * w < sumI ws

theorem fair {s : StrT} {ws : List Int} (hs : StrB s) (hw : WtsB ws) : FairB s ws := by
  have hsum := massesL_sum hw hs.m0
  have hlen := massesL_length s.M ws
  have hpos : 0 < ws.length := by
    have := hw.some
    cases ws with
    | nil => simp [sumI] at this
    | cons => simp
  have hm1 : (partsL s ws).map (·.M) = massesL s.M ws := by
    rw [partsL, List.map_map]
    show (massesL s.M ws).map (fun m => m) = _
    simp
  refine ⟨by simp [partsL, hlen], by rw [sumStr_M, hm1, hsum], by simp only [lostL]; omega, by simp only [lostL]; omega, by simp only [lostL]; omega, ?_, ?_⟩
  · by_cases h0 : s.M = 0
    · exact .inl h0
    · right
      have hM : 0 < s.M := by have := hs.m0; omega
      have r : ∀ n : Int, 0 ≤ n - sumI ((massesL s.M ws).map (fun m => n * m / max 1 s.M)) ∧ n - sumI ((massesL s.M ws).map (fun m => n * m / max 1 s.M)) ≤ ws.length - 1 := fun n => by
        have := lost_range (n := n) hM hsum (by omega)
        rw [hlen] at this
        exact this
      have e1 : (partsL s ws).map (·.H) = (massesL s.M ws).map (fun m => s.H * m / max 1 s.M) := by rw [partsL, List.map_map]; rfl
      have e2 : (partsL s ws).map (·.S) = (massesL s.M ws).map (fun m => s.S * m / max 1 s.M) := by rw [partsL, List.map_map]; rfl
      have e3 : (partsL s ws).map (·.G) = (massesL s.M ws).map (fun m => s.G * m / max 1 s.M) := by rw [partsL, List.map_map]; rfl
      simp only [lostL, sumStr_H, sumStr_S, sumStr_G, e1, e2, e3]
      exact ⟨inB_of (r s.H).1 (r s.H).2, inB_of (r s.S).1 (r s.S).2, inB_of (r s.G).1 (r s.G).2⟩
  · intro i w p hwi hpi
    rw [partsL, List.getElem?_map] at hpi
    cases hm : (massesL s.M ws)[i]? with
    | none => rw [hm] at hpi; cases hpi
    | some m =>
      rw [hm] at hpi
      simp only [Option.map_some, Option.some.injEq] at hpi
      subst hpi
      have hb := massesL_bd hw hs.m0 m (List.mem_of_getElem? hm)
      exact ⟨partOf_ok hs hb.1 hb.2, masses_far hw hs.m0 hwi hm⟩
end Go.Proofs.Ytenpbiineblcjaa
