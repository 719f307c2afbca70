/-
  Plain laws on a flash and a train of flashes: the program's reckoning; what is kept. No conditions but validity.
-/
import Derived.Test.YtenpbiineblcjaaPVal
namespace Go.Proofs.Ytenpbiineblcjaa
open Go.RowKit

structure RowV (r : GRow) : Prop where
  l0 : 0 ≤ r.Liquid
  l1 : r.Liquid ≤ 4000
  lv : r.Liquid < r.Vapour
  v1 : r.Vapour ≤ 4000
  s0 : 0 ≤ r.Silica
  s1 : r.Silica ≤ 2000
theorem rowV_of {r : GRow} (h : rowB r = true) : RowV r := by
  simp [rowB, btw] at h
  exact ⟨by omega, by omega, by omega, by omega, by omega, by omega⟩
structure StrV (s : GStream) : Prop where
  m0 : 0 ≤ s.Mass
  m1 : s.Mass ≤ 1000000
  h0 : 0 ≤ s.Heat
  h1 : s.Heat ≤ 4000 * s.Mass
  s0 : 0 ≤ s.Silica
  s1 : s.Silica ≤ 10000 * s.Mass
  g0 : 0 ≤ s.Gas
  g1 : s.Gas ≤ 1000000000
theorem strV_iff {s : GStream} : strB s = true ↔ StrV s := by
  simp only [strB, btw, Bool.and_eq_true, decide_eq_true_eq]
  exact ⟨fun h => ⟨by omega, by omega, by omega, by omega, by omega, by omega, by omega, by omega⟩, fun h => by obtain ⟨_, _, _, _, _, _, _, _⟩ := h; omega⟩

/-- Bounds of a product. -/
theorem bdp {x y a b : Int} (hx : 0 ≤ x) (hx' : x ≤ a) (hy : 0 ≤ y) (hy' : y ≤ b) (ha : 0 ≤ a) : 0 ≤ x * y ∧ x * y ≤ a * b :=
  ⟨Int.mul_nonneg hx hy, Int.mul_le_mul hx' hy' hy ha⟩

def stm (r : GRow) (s : GStream) : Int :=
  if s.Heat - s.Mass * r.Liquid ≤ 0 then 0 else if s.Mass * r.Vapour ≤ s.Heat then s.Mass else (s.Heat - s.Mass * r.Liquid).tdiv (r.Vapour - r.Liquid)
def flG (r : GRow) (s : GStream) : GParts :=
  if stm r s = 0 then ⟨⟨0, 0, 0, 0⟩, ⟨s.Mass, s.Heat, min (s.Mass * r.Silica) s.Silica, s.Gas⟩, if 0 < s.Mass then max (s.Heat - s.Mass * r.Liquid) 0 else 0, s.Silica - min (s.Mass * r.Silica) s.Silica⟩
  else if stm r s = s.Mass then ⟨⟨s.Mass, s.Heat, 0, s.Gas⟩, ⟨0, 0, 0, 0⟩, 0, s.Silica⟩
  else ⟨⟨stm r s, stm r s * r.Vapour, 0, s.Gas⟩, ⟨s.Mass - stm r s, s.Heat - stm r s * r.Vapour, min ((s.Mass - stm r s) * r.Silica) s.Silica, 0⟩, s.Heat - stm r s * r.Vapour - (s.Mass - stm r s) * r.Liquid, s.Silica - min ((s.Mass - stm r s) * r.Silica) s.Silica⟩

/-- What is known of the steam's mass. -/
theorem stm_cases {r : GRow} {s : GStream} (hr : RowV r) (hs : StrV s) :
    (s.Heat - s.Mass * r.Liquid ≤ 0 ∧ stm r s = 0) ∨
    (0 < s.Heat - s.Mass * r.Liquid ∧ s.Mass * r.Vapour ≤ s.Heat ∧ stm r s = s.Mass ∧ 0 < s.Mass) ∨
    (0 < s.Heat - s.Mass * r.Liquid ∧ s.Heat < s.Mass * r.Vapour ∧ stm r s = (s.Heat - s.Mass * r.Liquid).tdiv (r.Vapour - r.Liquid) ∧ 0 ≤ stm r s ∧ stm r s < s.Mass ∧ stm r s * (r.Vapour - r.Liquid) ≤ s.Heat - s.Mass * r.Liquid ∧ s.Heat - s.Mass * r.Liquid < stm r s * (r.Vapour - r.Liquid) + (r.Vapour - r.Liquid)) := by
  obtain ⟨l0, l1, lv, v1, s0, s1⟩ := hr
  obtain ⟨m0, m1, h0, h1, _, _, _, _⟩ := hs
  by_cases c1 : s.Heat - s.Mass * r.Liquid ≤ 0
  · exact .inl ⟨c1, by unfold stm; rw [if_pos c1]⟩
  · by_cases c2 : s.Mass * r.Vapour ≤ s.Heat
    · refine .inr (.inl ⟨by omega, c2, by unfold stm; rw [if_neg c1, if_pos c2], ?_⟩)
      rcases Int.lt_or_eq_of_le m0 with h | h
      · exact h
      · rw [← h] at h1 c1
        simp at h1 c1
        omega
    · have e : stm r s = (s.Heat - s.Mass * r.Liquid).tdiv (r.Vapour - r.Liquid) := by unfold stm; rw [if_neg c1, if_neg c2]
      have e2 : stm r s = (s.Heat - s.Mass * r.Liquid) / (r.Vapour - r.Liquid) := by rw [e, Int.tdiv_eq_ediv_of_nonneg (by omega)]
      have d0 : 0 < r.Vapour - r.Liquid := by omega
      have q1 := Int.ediv_mul_le (s.Heat - s.Mass * r.Liquid) (b := r.Vapour - r.Liquid) (by omega)
      have q2 := Int.lt_mul_ediv_self_add (x := s.Heat - s.Mass * r.Liquid) (k := r.Vapour - r.Liquid) d0
      have q3 : 0 ≤ stm r s := by rw [e2]; exact Int.ediv_nonneg (by omega) (by omega)
      rw [← e2] at q1 q2
      rw [Int.mul_comm (r.Vapour - r.Liquid)] at q2
      refine .inr (.inr ⟨by omega, by omega, e, q3, ?_, q1, q2⟩)
      rw [e2]
      refine Int.ediv_lt_of_lt_mul d0 ?_
      rw [Int.mul_sub]
      omega

/-- The numbers of a flash do not leave the word. -/
structure Words (r : GRow) (s : GStream) : Prop where
  a : w64 (s.Mass * r.Liquid) = s.Mass * r.Liquid
  b : w64 (s.Heat - s.Mass * r.Liquid) = s.Heat - s.Mass * r.Liquid
  c : w64 (s.Mass * r.Vapour) = s.Mass * r.Vapour
  d : w64 (r.Vapour - r.Liquid) = r.Vapour - r.Liquid
theorem words {r : GRow} {s : GStream} (hr : RowV r) (hs : StrV s) : Words r s := by
  obtain ⟨l0, l1, lv, v1, s0, s1⟩ := hr
  obtain ⟨m0, m1, h0, h1, _, _, _, _⟩ := hs
  have p1 := bdp m0 m1 l0 l1 (by omega)
  have p2 := bdp (y := r.Vapour) m0 m1 (by omega) v1 (by omega)
  exact ⟨w64_id (by omega) (by omega), w64_id (by omega) (by omega), w64_id (by omega) (by omega), w64_id (by omega) (by omega)⟩

theorem steam_eq (N : Nat) {r : GRow} {s : GStream} (hr : RowV r) (hs : StrV s) : steam_flash_steamX N ⟨r⟩ s = some (stm r s) := by
  obtain ⟨wa, wb, wc, wd⟩ := words hr hs
  have hlv := hr.lv
  have hd : ((r.Vapour - r.Liquid) != 0) = true := by simp; omega
  have hs' := hs
  obtain ⟨m0, m1, h0, h1, _, _, _, _⟩ := hs'
  unfold steam_flash_steamX
  simp only [wa, wb, wc, wd, Option.bind_some, hd, chk, cond_true]
  rcases stm_cases hr hs with ⟨a, b⟩ | ⟨a, b, c, d⟩ | ⟨a, b, c, d, e, _, _⟩
  · rw [decide_eq_true a, b]; rfl
  · rw [decide_eq_false (show ¬ s.Heat - s.Mass * r.Liquid ≤ 0 by omega), decide_eq_true (show s.Heat ≥ s.Mass * r.Vapour from b), c]; rfl
  · rw [decide_eq_false (show ¬ s.Heat - s.Mass * r.Liquid ≤ 0 by omega), decide_eq_false (show ¬ s.Heat ≥ s.Mass * r.Vapour by omega), ← c, w64_id (by omega) (by omega)]; rfl

theorem of_eq (N : Nat) {r : GRow} {s : GStream} (hr : RowV r) (hs : StrV s) : steam_flash_ofX N ⟨r⟩ s = some (flG r s) := by
  have hw := words hr hs
  have hc := stm_cases hr hs
  have he := steam_eq N hr hs
  obtain ⟨l0, l1, lv, v1, s0, s1⟩ := hr
  obtain ⟨m0, m1, h0, h1, q0, q1, _, _⟩ := hs
  unfold steam_flash_ofX
  have : (⟨⟨r.T, r.P, r.Liquid, r.Vapour, r.Silica⟩⟩ : GFlash) = ⟨r⟩ := rfl
  dsimp only at this ⊢
  rw [he]
  have p1 := bdp m0 m1 s0 s1 (by omega)
  simp only [Option.bind_some, joinK]
  unfold flG
  generalize hm : stm r s = m at *
  by_cases z : m = 0
  · subst z
    rw [if_pos rfl, hw.a, w64_id (x := s.Mass * r.Silica) (by omega) (by omega), hw.b]
    simp only [beq_self_eq_true, cond_true]
    have : w64 (s.Silica - (if s.Mass * r.Silica < s.Silica then s.Mass * r.Silica else s.Silica)) = s.Silica - min (s.Mass * r.Silica) s.Silica := by
      rw [w64_id] <;> (repeat split) <;> omega
    rw [this]
    by_cases c : 0 < s.Mass
    · rw [decide_eq_true (show s.Mass > 0 from c), if_pos c]
      simp only [cond_true]
      congr 2
      · congr 1; split <;> omega
      · split <;> omega
    · rw [decide_eq_false (show ¬ s.Mass > 0 from c), if_neg c]
      simp only [cond_false]
      congr 2
      congr 1; split <;> omega
  · have z1 : (m == 0) = false := by simpa using z
    rw [if_neg z, z1]
    by_cases f : m = s.Mass
    · have f1 : (m == s.Mass) = true := by simpa using f
      rw [f1, if_pos f]
      have : w64 (0 * r.Silica) = 0 := by rw [Int.zero_mul]; rfl
      simp only [cond_false, cond_true, this]
      have : w64 (s.Silica - (if 0 < s.Silica then 0 else s.Silica)) = s.Silica := by rw [w64_id] <;> split <;> omega
      rw [this]
      simp only [show decide ((0 : Int) > 0) = false from rfl, cond_false]
      congr 2
      · rw [f]
      · congr 1; split <;> omega
    · have f1 : (m == s.Mass) = false := by simpa using f
      rw [f1, if_neg f]
      rcases hc with ⟨a, b⟩ | ⟨a, b, c, d⟩ | ⟨a, b, c, d, e, g1, g2⟩
      · exact absurd b z
      · exact absurd c f
      · have k1 := bdp d (show m ≤ 1000000 by omega) (show 0 ≤ r.Vapour by omega) v1 (by omega)
        have k2 := bdp (show 0 ≤ s.Mass - m by omega) (show s.Mass - m ≤ 1000000 by omega) s0 s1 (by omega)
        have k3 := bdp (show 0 ≤ s.Mass - m by omega) (show s.Mass - m ≤ 1000000 by omega) l0 l1 (by omega)
        rw [Int.mul_sub] at g1
        have k4 : 0 ≤ s.Heat - m * r.Vapour - (s.Mass - m) * r.Liquid := by rw [Int.sub_mul]; omega
        simp only [cond_false]
        rw [w64_id (x := s.Mass - m) (by omega) (by omega), w64_id (x := m * r.Vapour) (by omega) (by omega), w64_id (x := s.Heat - m * r.Vapour) (by omega) (by omega), w64_id (x := (s.Mass - m) * r.Silica) (by omega) (by omega), w64_id (x := (s.Mass - m) * r.Liquid) (by omega) (by omega), w64_id (x := s.Heat - m * r.Vapour - (s.Mass - m) * r.Liquid) (by omega) (by omega), decide_eq_true (show s.Mass - m > 0 by omega)]
        have : w64 (s.Silica - (if (s.Mass - m) * r.Silica < s.Silica then (s.Mass - m) * r.Silica else s.Silica)) = s.Silica - min ((s.Mass - m) * r.Silica) s.Silica := by
          rw [w64_id] <;> (repeat split) <;> omega
        rw [this]
        simp only [cond_true]
        congr 2
        · congr 1; split <;> omega
        · split <;> omega

/-- What a flash keeps. -/
structure KeptF (s : GStream) (p : GParts) : Prop where
  st : StrV p.Steam
  wa : StrV p.Water
  km : p.Steam.Mass + p.Water.Mass = s.Mass
  kh : p.Steam.Heat + p.Water.Heat = s.Heat
  ks : p.Water.Silica + p.Scale = s.Silica
  kg : p.Steam.Gas + p.Water.Gas = s.Gas
  z : p.Steam.Silica = 0
  sc : 0 ≤ p.Scale
theorem flG_kept {r : GRow} {s : GStream} (hr : RowV r) (hs : StrV s) : KeptF s (flG r s) := by
  have hc := stm_cases hr hs
  obtain ⟨l0, l1, lv, v1, s0, s1⟩ := hr
  obtain ⟨m0, m1, h0, h1, q0, q1, y0, y1⟩ := hs
  have p1 := bdp m0 m1 s0 s1 (by omega)
  unfold flG
  by_cases z : stm r s = 0
  · rw [if_pos z]
    refine ⟨⟨?_, ?_, ?_, ?_, ?_, ?_, ?_, ?_⟩, ⟨?_, ?_, ?_, ?_, ?_, ?_, ?_, ?_⟩, ?_, ?_, ?_, ?_, ?_, ?_⟩ <;> dsimp only <;> omega
  · rw [if_neg z]
    by_cases f : stm r s = s.Mass
    · rw [if_pos f]
      refine ⟨⟨?_, ?_, ?_, ?_, ?_, ?_, ?_, ?_⟩, ⟨?_, ?_, ?_, ?_, ?_, ?_, ?_, ?_⟩, ?_, ?_, ?_, ?_, ?_, ?_⟩ <;> dsimp only <;> omega
    · rw [if_neg f]
      rcases hc with ⟨a, b⟩ | ⟨a, b, c, d⟩ | ⟨a, b, c, d, e, g1, g2⟩
      · exact absurd b z
      · exact absurd c f
      · generalize stm r s = m at *
        have k1 := bdp d (show m ≤ 1000000 by omega) (show 0 ≤ r.Vapour by omega) v1 (by omega)
        have k2 := bdp (show 0 ≤ s.Mass - m by omega) (show s.Mass - m ≤ 1000000 by omega) s0 s1 (by omega)
        have k5 : m * r.Vapour ≤ m * 4000 := Int.mul_le_mul_of_nonneg_left v1 d
        have k6 : (s.Mass - m) * r.Silica ≤ (s.Mass - m) * 2000 := Int.mul_le_mul_of_nonneg_left s1 (by omega)
        have k7 : (s.Mass - m - 1) * (r.Vapour - r.Liquid) ≥ 0 := Int.mul_nonneg (by omega) (by omega)
        have k8 : (s.Mass - m) * r.Vapour ≤ (s.Mass - m) * 4000 := Int.mul_le_mul_of_nonneg_left v1 (by omega)
        have k9 : 0 ≤ s.Mass * r.Liquid - m * r.Liquid := by rw [← Int.sub_mul]; exact Int.mul_nonneg (by omega) l0
        simp only [Int.mul_sub, Int.sub_mul, Int.one_mul] at g1 g2 k7 k8 k6 k2
        refine ⟨⟨?_, ?_, ?_, ?_, ?_, ?_, ?_, ?_⟩, ⟨?_, ?_, ?_, ?_, ?_, ?_, ?_, ?_⟩, ?_, ?_, ?_, ?_, ?_, ?_⟩ <;> dsimp only <;> (try simp only [Int.sub_mul]) <;> omega

/-! trains -/
def trainG (t : List GRow) : GStream → List Int → List GParts
  | _, [] => []
  | s, l :: ls => flG ((getI t l).getD ⟨0, 0, 0, 0, 0⟩) s :: trainG t (flG ((getI t l).getD ⟨0, 0, 0, 0, 0⟩) s).Water ls
theorem trainG_len (t : List GRow) : ∀ (l : List Int) (s : GStream), (trainG t s l).length = l.length
  | [], _ => rfl
  | _ :: l, _ => by simp [trainG, trainG_len t l]
theorem row_at {t : List GRow} (ht : tabB t = true) {l : Int} (h : btw l 0 (t.length - 1) = true) : getI t l = some ((getI t l).getD ⟨0, 0, 0, 0, 0⟩) ∧ RowV ((getI t l).getD ⟨0, 0, 0, 0, 0⟩) := by
  simp only [btw, Bool.and_eq_true, decide_eq_true_eq] at h
  have hi : l.toNat < t.length := by omega
  have e : getI t l = some t[l.toNat] := by unfold getI; rw [if_pos h.1, List.getElem?_eq_getElem hi]
  rw [e]
  refine ⟨rfl, ?_⟩
  simp only [tabB, Bool.and_eq_true] at ht
  exact rowV_of (List.all_eq_true.1 ht.1.2 _ (List.getElem_mem hi))
theorem trainS_loop (N : Nat) {t : List GRow} (ht : tabB t = true) (l : List Int) (hl : l.length ≤ 1000) (ha : ∀ x ∈ l, btw x 0 ((t.length : Int) - 1) = true) : ∀ (n i : Nat) (s : GStream), StrV s → (l.drop i).length < n → i ≤ l.length →
    steam_Table_train_1S_loop1 N l t n i s.Mass s.Heat s.Silica s.Gas = some (trainG t s (l.drop i)) := by
  intro n
  induction n with
  | zero => intro i s _ h; omega
  | succ n ih =>
    intro i s hs h hi
    unfold steam_Table_train_1S_loop1
    cases hd : l.drop i with
    | nil =>
      have := drop_nil hd
      rw [show (decide ((i : Int) < (l.length : Int))) = false by simp; omega]
      rfl
    | cons a q =>
      obtain ⟨h1, h2, h3⟩ := drop_cons hd
      rw [show (decide ((i : Int) < (l.length : Int))) = true by simp; omega]
      have e : w64 ((i : Int) + 1) = ((i + 1 : Nat) : Int) := by rw [w64_id] <;> omega
      obtain ⟨g1, g2⟩ := row_at ht (ha a (List.mem_of_getElem? h1))
      simp only [cond_true, getI_at h1, Option.bind_some, e, steam_Table_atX, trainG]
      rw [g1]
      simp only [Option.getD_some, Option.bind_some]
      generalize (getI t a).getD ⟨0, 0, 0, 0, 0⟩ = r at g2
      have ho : steam_flash_ofX N ⟨⟨r.T, r.P, r.Liquid, r.Vapour, r.Silica⟩⟩ ⟨s.Mass, s.Heat, s.Silica, s.Gas⟩ = some (flG r s) := of_eq N g2 hs
      rw [ho]
      simp only [Option.bind_some]
      rw [ih (i + 1) _ (flG_kept g2 hs).wa (by rw [h2]; rw [hd] at h; simpa using h) (by omega), h2]
      rfl
theorem collect_range (N : Nat) (k : List GParts → Option (List GParts)) : ∀ (q y : List GParts), y.length + q.length ≤ 1000 → slices_AppendSeq_steam_Parts_steam_PartsX_1_range1 N k q y = k (y ++ q)
  | [], y, _ => by simp [slices_AppendSeq_steam_Parts_steam_PartsX_1_range1]
  | x :: q, y, h => by
    have hc : decide ((y.length + [x].length) * 80 ≤ 140737488355328) = true := by simp at h ⊢; omega
    rw [slices_AppendSeq_steam_Parts_steam_PartsX_1_range1]
    have hc' : decide ((y.length + [(⟨⟨x.Steam.Mass, x.Steam.Heat, x.Steam.Silica, x.Steam.Gas⟩, ⟨x.Water.Mass, x.Water.Heat, x.Water.Silica, x.Water.Gas⟩, x.Rest, x.Scale⟩ : GParts)].length) * 80 ≤ 140737488355328) = true := hc
    rw [hc']
    simp only [chk, cond_true]
    rw [collect_range N k q _ (by simp at h ⊢; omega)]
    simp
theorem collect_eq {N : Nat} (hN : 1001 ≤ N) {t : List GRow} (ht : tabB t = true) {l : List Int} (hl : l.length ≤ 20) (ha : ∀ x ∈ l, btw x 0 ((t.length : Int) - 1) = true) {s : GStream} (hs : StrV s) : slices_Collect_steam_PartsX_1 N l t s.Mass s.Heat s.Silica s.Gas = some (trainG t s l) := by
  have := trainS_loop N ht l (by omega) ha N 0 s hs (by simp; omega) (Nat.zero_le _)
  rw [show ((0 : Nat) : Int) = 0 from rfl, List.drop_zero] at this
  unfold slices_Collect_steam_PartsX_1 slices_AppendSeq_steam_Parts_steam_PartsX_1 steam_Table_train_1S joinK
  rw [this]
  simp only [Option.bind_some]
  rw [collect_range N _ _ _ (by rw [trainG_len]; simp; omega)]
  rfl
/-! what Train and Flash answer -/
def trainA (t : List GRow) (l : List Int) (s : GStream) : List GParts × Int :=
  bif !tabB t then ([], 1) else bif !levB t.length l then ([], 2) else bif !strB s then ([], 1) else (trainG t s l, 0)
theorem levB_all {n : Int} {l : List Int} (h : levB n l = true) : (1 ≤ l.length ∧ l.length ≤ 20) ∧ (∀ x ∈ l, btw x 0 (n - 1) = true) ∧ decB l = true := by
  simp only [levB, Bool.and_eq_true] at h
  refine ⟨?_, fun x hx => List.all_eq_true.1 h.1.2 x hx, h.2⟩
  have := h.1.1
  simp only [btw, Bool.and_eq_true, decide_eq_true_eq] at this
  omega
theorem train_eq {N : Nat} (hN : 1001 ≤ N) {t : List GRow} (ht : t.length ≤ 1000) {l : List Int} (hl : l.length ≤ 1000) (s : GStream) : steam_TrainX N t l s = some (trainA t l s) := by
  unfold steam_TrainX trainA
  rw [valid_eq ht hN]
  cases hT : tabB t with
  | false => rfl
  | true =>
    simp only [Option.bind_some, Bool.not_true, cond_false, joinK, within_eq, allLevel_eq ht hl hN]
    cases h1 : btw l.length 1 20 with
    | false => simp [levB, h1]
    | true =>
      cases h2 : l.all fun x => btw x 0 ((t.length : Int) - 1) with
      | false => simp [levB, h1, h2]
      | true =>
        have hlen : 1 ≤ l.length := by simp [btw] at h1; omega
        have := dec_loop N l (fun _ =>
            (steam_Stream_validX N s).bind fun x7 =>
            bif (!x7) then
              some ([], 1)
            else
              (steam_Table_trainX_1 N t l s).bind fun _ =>
              (slices_Collect_steam_PartsX_1 N l t s.Mass s.Heat s.Silica s.Gas).bind fun x12 =>
              some (x12, 0)) hl N 0 (by simp; omega) (by omega)
        rw [show ((0 : Nat) : Int) = 0 from rfl, List.drop_zero] at this
        simp only [Bool.not_true, cond_false]
        rw [this, show (decide ((1 : Int) ≤ (l.length : Int))) = true by rw [decide_eq_true_eq]; omega]
        cases h3 : decB l with
        | false => simp [levB, h1, h2, h3, chk]
        | true =>
          simp only [levB, h1, h2, h3, validStream_eq, Option.bind_some, chk, Bool.and_true, Bool.not_true, cond_false, cond_true, decide_true, Int.le_refl]
          cases h4 : strB s with
          | false => rfl
          | true =>
            simp only [Bool.not_true, cond_false, steam_Table_trainX_1, Option.bind_some]
            rw [collect_eq hN hT (by simp [btw] at h1; omega) (fun x hx => List.all_eq_true.1 h2 x hx) (strV_iff.1 h4)]
            simp
def partZ : GParts := ⟨⟨0, 0, 0, 0⟩, ⟨0, 0, 0, 0⟩, 0, 0⟩
def flashA (t : List GRow) (l : Int) (s : GStream) : GParts × Int :=
  bif !tabB t then (partZ, 1) else bif !btw l 0 (t.length - 1) then (partZ, 2) else bif !strB s then (partZ, 1) else (flG ((getI t l).getD ⟨0, 0, 0, 0, 0⟩) s, 0)
theorem flash_eq {N : Nat} (hN : 1001 ≤ N) {t : List GRow} (ht : t.length ≤ 1000) (l : Int) (s : GStream) : steam_FlashX N t l s = some (flashA t l s) := by
  have e0 : w64 ((t.length : Int) - 1) = (t.length : Int) - 1 := by rw [w64_id] <;> omega
  unfold steam_FlashX flashA
  rw [valid_eq ht hN]
  cases hT : tabB t with
  | false => rfl
  | true =>
    simp only [Option.bind_some, Bool.not_true, cond_false, steam_Table_hasX, within_eq, e0, validStream_eq]
    cases h1 : btw l 0 ((t.length : Int) - 1) with
    | false => rfl
    | true =>
      cases h2 : strB s with
      | false => rfl
      | true =>
        obtain ⟨g1, g2⟩ := row_at hT h1
        simp only [Bool.not_true, cond_false, steam_Table_atX]
        rw [g1]
        simp only [Option.getD_some, Option.bind_some]
        generalize (getI t l).getD ⟨0, 0, 0, 0, 0⟩ = r at g2
        have ho : steam_flash_ofX N ⟨⟨r.T, r.P, r.Liquid, r.Vapour, r.Silica⟩⟩ s = some (flG r s) := of_eq N g2 (strV_iff.1 h2)
        rw [ho]
        rfl
end Go.Proofs.Ytenpbiineblcjaa
