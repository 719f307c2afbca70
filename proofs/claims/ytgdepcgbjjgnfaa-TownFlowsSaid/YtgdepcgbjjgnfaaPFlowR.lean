/-
  Plain: the document's flows are the program's. No conditions.
-/
import Derived.Test.YtgdepcgbjjgnfaaPFull
namespace Go.Proofs.Ytgdepcgbjjgnfaa
open Go.RowKit

/-- What the nodes from one on hand up to a node. -/
def chS (t : List GNode) (L : List Int) (j : Nat) : Nat → Nat → Int
  | 0, _ => 0
  | d + 1, a => (match t[a]? with | some x => if x.Parent = (j : Int) then L.getD a 0 else 0 | none => 0) + chS t L j d (a + 1)
theorem chS_pos {t : List GNode} {L : List Int} (hL : ∀ (i : Nat), 0 ≤ L.getD i 0) (j : Nat) : ∀ (d a : Nat), 0 ≤ chS t L j d a
  | 0, _ => Int.le_refl _
  | d + 1, a => by
    have := chS_pos hL (t := t) j d (a + 1)
    have := hL a
    rw [chS]
    split
    · split <;> omega
    · omega
theorem run_spec {t : List GNode} {uses L : List Int} (ht : townB t = true) : ∀ (m : Nat) (out : List Int), m ≤ t.length → FlowOK t m out → run t m out = L → (∀ (j : Nat) o, j < m → out[j]? = some o → o = uses.getD j 0 + chS t L j (t.length - m) m) →
    ∀ (i : Nat) x, i < m → t[i]? = some x → L.getD i 0 = lossy (uses.getD i 0 + chS t L i (t.length - (i + 1)) (i + 1)) x ∧ 0 ≤ L.getD i 0 ∧ L.getD i 0 ≤ 100000000000
  | 0, _, _, _, _, _, i, _, h, _ => absurd h (Nat.not_lt_zero _)
  | m + 1, out, hm, hok, hrun, hinv, i, x, hi, hx => by
    have hxm : t[m]? = some (t[m]'(by omega)) := List.getElem?_eq_getElem _
    have hom : out[m]? = some (out[m]'(by rw [hok.len]; omega)) := List.getElem?_eq_getElem _
    generalize t[m]'(by omega) = y at hxm
    generalize out[m]'(by rw [hok.len]; omega) = o at hom
    obtain ⟨hflow, o0, o1, l0, l1, hp⟩ := stp_ok ht hok hxm hom
    rw [run, hxm, hom] at hrun
    have hrun' : run t m (stp y o out m) = L := hrun
    have hn := node_at ht hxm
    have hLm : L[m]? = some (lossy o y) := by
      rw [← hrun', run_keep ht m _ m (Nat.le_refl m)]
      unfold stp
      split
      · rename_i hpp
        obtain ⟨p1, _⟩ := hp hpp
        rw [get_set, if_neg (by omega), get_set, if_pos rfl, if_pos (by rw [hok.len]; omega)]
      · rw [get_set, if_pos rfl, if_pos (by rw [hok.len]; omega)]
    have hLd : L.getD m 0 = lossy o y := by rw [List.getD_eq_getElem?_getD, hLm, Option.getD_some]
    have hom' := hinv m o (Nat.lt_succ_self m) hom
    rcases Nat.lt_or_ge i m with hlt | hge
    · refine run_spec ht m _ (by omega) hflow hrun' (fun j q hj hq => ?_) i x hlt hx
      have hoj : out[j]? = some (out[j]'(by rw [hok.len]; omega)) := List.getElem?_eq_getElem _
      generalize out[j]'(by rw [hok.len]; omega) = oj at hoj
      have hj' := hinv j oj (by omega) hoj
      rw [show t.length - m = (t.length - (m + 1)) + 1 by omega, chS, hxm]
      dsimp only
      unfold stp at hq
      by_cases hpj : y.Parent = (j : Int)
      · rw [if_pos (by omega), get_set, if_pos (by omega), List.length_set, if_pos (by rw [hok.len]; omega)] at hq
        rw [if_pos hpj, hLd]
        have e : y.Parent.toNat = j := by omega
        rw [e, List.getD_eq_getElem?_getD, hoj, Option.getD_some] at hq
        have := Option.some.inj hq
        omega
      · rw [if_neg hpj]
        have hq' : out[j]? = some q := by
          split at hq
          · rename_i hpp
            rw [get_set, if_neg (by omega), get_set, if_neg (by omega)] at hq
            exact hq
          · rw [get_set, if_neg (by omega)] at hq
            exact hq
        rw [hoj] at hq'
        have := Option.some.inj hq'
        omega
    · have : i = m := by omega
      subst this
      rw [hxm] at hx
      cases hx
      rw [hLd, ← hom']
      exact ⟨rfl, l0, l1⟩
theorem flow_spec {t : List GNode} {l : List Int} (ht : townB t = true) (hu : usesB l = true) (hl : l.length = t.length) {i : Nat} {x : GNode} (hx : t[i]? = some x) :
    (flowL t l).getD i 0 = lossy (l.getD i 0 + chS t (flowL t l) i (t.length - (i + 1)) (i + 1)) x ∧ 0 ≤ (flowL t l).getD i 0 ∧ (flowL t l).getD i 0 ≤ 100000000000 :=
  run_spec ht t.length l (Nat.le_refl _) (start_ok ht hu hl) rfl (fun j o hj ho => by
    rw [Nat.sub_self, chS, List.getD_eq_getElem?_getD, ho]
    simp) i x (List.getElem?_eq_some_iff.1 hx).1 hx
theorem flow_pos {t : List GNode} {l : List Int} (ht : townB t = true) (hu : usesB l = true) (hl : l.length = t.length) (i : Nat) : 0 ≤ (flowL t l).getD i 0 := by
  rcases Nat.lt_or_ge i t.length with h | h
  · exact (flow_spec ht hu hl (List.getElem?_eq_getElem h)).2.1
  · rw [List.getD_eq_getElem?_getD, List.getElem?_eq_none (by rw [flowL_len]; omega)]
    simp
theorem refFlow_loop (N : Nat) {t : List GNode} {l : List Int} (rec_ : List GNode → List Int → Int → Option Int) (i : Nat) (k : Int → Option Int) (hs : t.length ≤ 1000) (hL : ∀ j, 0 ≤ (flowL t l).getD j 0) (hrec : ∀ j, i < j → j < t.length → rec_ t l j = some ((flowL t l).getD j 0)) : ∀ (n d a : Nat) (acc : Int), d < n → a + d = t.length → i < a → 0 ≤ acc → acc + chS t (flowL t l) i d a ≤ 100000000000 →
    ref10_FlowX_loop1 N t rec_ l i k n acc a = k (acc + chS t (flowL t l) i d a) := by
  intro n
  induction n with
  | zero => intro d a _ h; omega
  | succ n ih =>
    intro d a acc h hd ha h0 hb
    rw [ref10_FlowX_loop1]
    cases d with
    | zero => simp [show ¬ ((a : Int) < t.length) from by omega, chS]
    | succ d =>
      have hx : t[a]? = some (t[a]'(by omega)) := List.getElem?_eq_getElem _
      generalize t[a]'(by omega) = x at hx
      have e1 : w64 ((a : Int) + 1) = ((a + 1 : Nat) : Int) := w64_id (by omega) (by omega)
      rw [chS, hx] at hb ⊢
      dsimp only at hb ⊢
      have hc := chS_pos hL (t := t) i d (a + 1)
      have hLa := hL a
      simp only [show decide ((a : Int) < t.length) = true from by simp; omega, cond_true, getI_at hx, Option.bind_some, e1]
      by_cases hp : x.Parent = (i : Int)
      · rw [if_pos hp] at hb ⊢
        simp only [show (x.Parent == (i : Int)) = true from by simpa using hp, cond_true, hrec a ha (by omega), Option.bind_some]
        rw [w64_id (by omega) (by omega), ih d (a + 1) _ (by omega) (by omega) (by omega) (by omega) (by omega), Int.add_assoc]
      · rw [if_neg hp] at hb ⊢
        simp only [show (x.Parent == (i : Int)) = false from by simpa using hp, cond_false]
        rw [ih d (a + 1) acc (by omega) (by omega) (by omega) h0 (by omega), Int.zero_add]
theorem refFlow_eq {t : List GNode} {l : List Int} (ht : townB t = true) (hu : usesB l = true) (hl : l.length = t.length) : ∀ (D i N : Nat), t.length - i ≤ D → i < t.length → 100 + D ≤ N → ref10_FlowX N t l i = some ((flowL t l).getD i 0)
  | 0, i, N, h, hi, _ => by omega
  | D + 1, i, N, h, hi, hN => by
    have h2 := town_len ht
    obtain ⟨M, rfl⟩ : ∃ M, N = M + 1 := ⟨N - 1, by omega⟩
    have hx : t[i]? = some (t[i]'hi) := List.getElem?_eq_getElem _
    generalize t[i]'hi = x at hx
    have hg : l[i]? = some (l[i]'(by omega)) := List.getElem?_eq_getElem _
    have hgd : l.getD i 0 = l[i]'(by omega) := by rw [List.getD_eq_getElem?_getD, hg, Option.getD_some]
    obtain ⟨f1, f2, f3⟩ := flow_spec ht hu hl hx
    have hu0 := use_at hu hg
    have hc := chS_pos (flow_pos ht hu hl) (t := t) i (t.length - (i + 1)) (i + 1)
    have hn := node_at ht hx
    have hle : l.getD i 0 + chS t (flowL t l) i (t.length - (i + 1)) (i + 1) ≤ (flowL t l).getD i 0 := by
      rw [f1]
      unfold lossy
      have := hn.loss
      split <;> omega
    show ref10_FlowX_body M (ref10_FlowX M) t l i = _
    unfold ref10_FlowX_body
    rw [getI_at hg, Option.bind_some]
    simp only [joinK]
    have e1 : w64 ((i : Int) + 1) = ((i + 1 : Nat) : Int) := w64_id (by omega) (by omega)
    rw [e1, ← hgd, refFlow_loop M (ref10_FlowX M) i _ (by omega) (flow_pos ht hu hl) (fun j hj hjt => refFlow_eq ht hu hl D j M (by omega) hjt (by omega)) M (t.length - (i + 1)) (i + 1) _ (by omega) (by omega) (by omega) (by rw [hgd]; exact hu0.1) (by omega)]
    generalize hT : l.getD i 0 + chS t (flowL t l) i (t.length - (i + 1)) (i + 1) = T at f1 hle
    rw [f1] at f3 ⊢
    unfold lossy at f3 ⊢
    by_cases hpos : T > 0
    · rw [if_pos hpos] at f3 ⊢
      have := hn.loss
      simp only [show decide (T > 0) = true from by simpa using hpos, cond_true, getI_at hx, Option.bind_some]
      rw [w64_id (by omega) (by omega)]
    · rw [if_neg hpos]
      simp [hpos]
theorem refFull_loop (N : Nat) {t : List GNode} {l : List Int} (hN : 2000 ≤ N) (ht : townB t = true) (hu : usesB l = true) (hl : l.length = t.length) : ∀ (n d i : Nat), d < n → i + d = t.length → 0 < i → ref10_FullX_loop1 N t (fun _ => some (-1)) l n i = some (fullI t (flowL t l) d i) := by
  have h2 := town_len ht
  intro n
  induction n with
  | zero => intro d i h; omega
  | succ n ih =>
    intro d i h hd hi
    rw [ref10_FullX_loop1]
    cases d with
    | zero => simp [show ¬ ((i : Int) < t.length) from by omega, fullI]
    | succ d =>
      have hx : t[i]? = some (t[i]'(by omega)) := List.getElem?_eq_getElem _
      have e1 : w64 ((i : Int) + 1) = ((i + 1 : Nat) : Int) := w64_id (by omega) (by omega)
      simp only [show decide ((i : Int) < t.length) = true from by simp; omega, cond_true, refFlow_eq ht hu hl t.length i N (by omega) (by omega) (by omega), getI_at hx, Option.bind_some, e1, ih d (i + 1) (by omega) (by omega) (by omega)]
      rw [fullI, limAt, hx]
      dsimp only
      by_cases hc : (flowL t l).getD i 0 > t[i].Limit
      · rw [if_pos ⟨hi, hc⟩, show decide ((flowL t l).getD i 0 > t[i].Limit) = true from decide_eq_true hc, cond_true]
      · rw [if_neg (fun h => hc h.2), show decide ((flowL t l).getD i 0 > t[i].Limit) = false from decide_eq_false hc, cond_false]
theorem refFull_eq {N : Nat} {t : List GNode} {l : List Int} (hN : 2000 ≤ N) (ht : townB t = true) (hu : usesB l = true) (hl : l.length = t.length) : ref10_FullX N t l = some (fullI t (flowL t l) t.length 0) := by
  have h2 := town_len ht
  unfold ref10_FullX
  simp only [joinK]
  have := refFull_loop N hN ht hu hl N (t.length - 1) 1 (by omega) (by omega) (by omega)
  rw [show ((1 : Nat) : Int) = 1 from rfl] at this
  rw [this, show t.length = (t.length - 1) + 1 by omega, fullI, if_neg (by omega)]
  simp
end Go.Proofs.Ytgdepcgbjjgnfaa
