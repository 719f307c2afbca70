/-
  Plain: the need is the sum of all uses and of the losses of the pipes through which something flows. No conditions.
-/
import Derived.Test.YtgdepcgbjjgnfaaX14
import Derived.Test.YtgdepcgbjjgnfaaPFull
namespace Go.Proofs.Ytgdepcgbjjgnfaa
open Go.RowKit

/-- The law's state beside the program's. -/
structure KeepOK (t : List GNode) (uses : List Int) (L : List Int) (m : Nat) (need : Int) (below out : List Int) : Prop where
  flow : FlowOK t m out
  last : run t m out = L
  len : below.length = t.length
  at_ : ∀ (j : Nat) b, j < m → below[j]? = some b → ∃ u, uses[j]? = some u ∧ out[j]? = some (u + b)
  sum : 0 < m → need = sumT below m
  pos : 0 ≤ need
  bd : need + 2000000000 * m ≤ 200000000000
theorem keeps_loop (N : Nat) {t : List GNode} {uses : List Int} {x7 : List Int × Int × Int} (k : Int → Option Bool) (ht : townB t = true) (hu : usesB uses = true) (hfull : fullI t x7.1 t.length 0 < 0) :
    ∀ (n m : Nat) (need : Int) (below out : List Int), m < n → m ≤ t.length → KeepOK t uses x7.1 m need below out →
      law10_TownKeepsX_loop1 N t uses x7 k n need ((m : Int) - 1) below = k (if m = 0 then need else x7.1.getD 0 0) := by
  have h2 := town_len ht
  intro n
  induction n with
  | zero => intro m _ _ _ h; omega
  | succ n ih =>
    intro m need below out h hm hk
    rw [law10_TownKeepsX_loop1]
    cases m with
    | zero => simp
    | succ m =>
      have hx : t[m]? = some (t[m]'(by omega)) := List.getElem?_eq_getElem _
      have hb : below[m]? = some (below[m]'(by rw [hk.len]; omega)) := List.getElem?_eq_getElem _
      generalize t[m]'(by omega) = x at hx
      generalize below[m]'(by rw [hk.len]; omega) = b at hb
      obtain ⟨u, hu1, ho⟩ := hk.at_ m b (Nat.lt_succ_self m) hb
      obtain ⟨u0, u1⟩ := use_at hu hu1
      obtain ⟨hflow, o0, o1, l0, l1, hp⟩ := stp_ok ht hk.flow hx ho
      have hn := node_at ht hx
      have hs := hk.sum (Nat.succ_pos m)
      have hbd := hk.bd
      have hpos := hk.pos
      have hrun : run t m (stp x (u + b) out m) = x7.1 := by
        have := hk.last
        rw [run, hx, ho] at this
        exact this
      have hL : x7.1[m]? = some (lossy (u + b) x) := by
        rw [← hrun, run_keep ht m _ m (Nat.le_refl m)]
        unfold stp
        split
        · rename_i hpp
          obtain ⟨p1, _⟩ := hp hpp
          rw [get_set, if_neg (by omega), get_set, if_pos rfl, if_pos (by rw [hk.flow.len]; omega)]
        · rw [get_set, if_pos rfl, if_pos (by rw [hk.flow.len]; omega)]
      have e0 : (((m + 1 : Nat) : Int) - 1) = (m : Int) := by omega
      have e1 : w64 ((m : Int) - 1) = (m : Int) - 1 := w64_id (by omega) (by omega)
      have e2 : w64 (u + b) = u + b := w64_id (by omega) (by omega)
      have e3 : w64 (need + u) = need + u := w64_id (by omega) (by omega)
      have c1 : decide ((m : Int).toNat < (t.length : Int).toNat) = true := by simp; omega
      -- the two ways meet
      have meet : ∀ need' n', need' = need + u + (lossy (u + b) x - (u + b)) → n' = lossy (u + b) x →
          (joinK (fun _ => bif (decide ((m : Int) > 0)) then (getI t m).bind fun x45 => chk (decide (0 ≤ x45.Parent) && decide (x45.Parent.toNat < (t.length : Int).toNat)) <| (below[x45.Parent.toNat]?).bind fun x50 => chk (decide (0 ≤ x45.Parent) && decide (x45.Parent.toNat < (t.length : Int).toNat)) <| (below[x45.Parent.toNat]?).bind fun _ => law10_TownKeepsX_loop1 N t uses x7 k n need' (w64 ((m : Int) - 1)) (below.set x45.Parent.toNat (w64 (x50 + n')))
            else law10_TownKeepsX_loop1 N t uses x7 k n need' (w64 ((m : Int) - 1)) below) fun k43 : Unit → Option Bool =>
            (getI x7.1 m).bind fun x55 => bif (x55 != n') then some false else bif (decide ((m : Int) > 0)) then (getI t m).bind fun x61 => bif (decide (x55 > x61.Limit)) then some false else k43 () else k43 ()) = k (if m + 1 = 0 then need else x7.1.getD 0 0) := by
        intro need' n' hneed hn'
        subst hn'
        have hlim : 0 < m → lossy (u + b) x ≤ x.Limit := fun hm0 => by
          have := fullI_none hfull m (Nat.zero_le _) (by omega) hm0
          rw [List.getD_eq_getElem?_getD, hL, Option.getD_some, limAt, hx] at this
          exact this
        have hll : lossy (u + b) x - (u + b) ≤ 1000000000 ∧ 0 ≤ lossy (u + b) x - (u + b) := by
          have := hn.loss
          unfold lossy
          split <;> omega
        simp only [joinK, getI_at hL, getI_at hx, Option.bind_some, bne_self_eq_false, cond_false, e1]
        have hsb := sumT_succ hb
        rcases Nat.eq_zero_or_pos m with e | hm0
        · subst e
          simp only [show decide (((0 : Nat) : Int) > 0) = false from rfl, cond_false]
          have hk' : KeepOK t uses x7.1 0 need' below (stp x (u + b) out 0) := ⟨hflow, hrun, hk.len, fun j _ hj => absurd hj (Nat.not_lt_zero _), fun h => absurd h (Nat.lt_irrefl _), by omega, by omega⟩
          rw [ih 0 need' below _ (by omega) (by omega) hk']
          have hz : sumT below 0 = 0 := by simp [sumT]
          simp only [if_true, Nat.zero_add, Nat.one_ne_zero, if_false]
          rw [List.getD_eq_getElem?_getD, hL, Option.getD_some, hneed]
          congr 1
          rw [hs]
          omega
        · have hpar := hn.par hm0
          obtain ⟨_, p, hq, q0, q1⟩ := hp hpar.1
          have hbp : below[x.Parent.toNat]? = some (below[x.Parent.toNat]'(by rw [hk.len]; omega)) := List.getElem?_eq_getElem _
          generalize below[x.Parent.toNat]'(by rw [hk.len]; omega) = bp at hbp
          obtain ⟨v, hv1, hv2⟩ := hk.at_ _ bp (by omega) hbp
          rw [hq] at hv2
          have hvp : p = v + bp := Option.some.inj hv2
          obtain ⟨v0, v1⟩ := use_at hu hv1
          have c2 : (decide (0 ≤ x.Parent) && decide (x.Parent.toNat < (t.length : Int).toNat)) = true := by simp; omega
          have e4 : w64 (bp + lossy (u + b) x) = bp + lossy (u + b) x := w64_id (by omega) (by omega)
          simp only [show decide ((m : Int) > 0) = true from by simpa using hm0, cond_true, chk, c2, hbp, Option.bind_some, e4, show decide (lossy (u + b) x > x.Limit) = false from by simp; exact hlim hm0, cond_false]
          have hk' : KeepOK t uses x7.1 m need' (below.set x.Parent.toNat (bp + lossy (u + b) x)) (stp x (u + b) out m) := by
            refine ⟨hflow, hrun, by rw [List.length_set, hk.len], fun j c hj hc => ?_, fun _ => ?_, by omega, by omega⟩
            · rw [get_set] at hc
              unfold stp
              rw [if_pos hpar.1]
              split at hc
              · rename_i e
                subst e
                split at hc
                · cases hc
                  refine ⟨v, hv1, ?_⟩
                  rw [get_set, if_pos rfl, List.length_set, if_pos (by rw [hk.flow.len]; omega), List.getD_eq_getElem?_getD, hq, Option.getD_some, hvp, Int.add_assoc]
                · cases hc
              · rename_i e
                obtain ⟨w, hw1, hw2⟩ := hk.at_ j c (by omega) hc
                exact ⟨w, hw1, by rw [get_set, if_neg e, get_set, if_neg (by omega), hw2]⟩
            · rw [sumT_set (by omega) hbp, hneed, hs]
              omega
          rw [ih m need' _ _ (by omega) (by omega) hk', if_neg (by omega), if_neg (by omega)]
      have hb' : below[(m : Int).toNat]? = some b := by rw [Int.toNat_natCast]; exact hb
      rw [e0, show decide ((m : Int) ≥ 0) = true from by simp, cond_true, getI_at hu1, Option.bind_some]
      rw [chk, c1, Bool.and_self, cond_true, hb', Option.bind_some, e2, e3]
      by_cases hpos' : u + b > 0
      · have e5 : w64 (u + b + x.Loss) = lossy (u + b) x := by
          unfold lossy at l1 ⊢
          rw [if_pos hpos'] at l1 ⊢
          have := hn.loss
          exact w64_id (by omega) (by omega)
        have e6 : w64 (need + u + x.Loss) = need + u + (lossy (u + b) x - (u + b)) := by
          unfold lossy
          rw [if_pos hpos']
          have := hn.loss
          rw [w64_id (by omega) (by omega)]
          omega
        rw [joinK, show decide (u + b > 0) = true from by simpa using hpos', cond_true, getI_at hx, Option.bind_some, e5, Option.bind_some, e6, Option.bind_some]
        have mt := meet _ _ rfl rfl
        rw [getI_at hx] at mt
        exact mt
      · have e5 : lossy (u + b) x = u + b := by rw [lossy, if_neg hpos']
        rw [joinK, show decide (u + b > 0) = false from by simpa using hpos', cond_false]
        exact meet (need + u) (u + b) (by omega) e5.symm
theorem keepsT_true (t : List GNode) (l : List Int) (_ : gd_LGNode t) (_ : gd_Li64 l) : law10_TownKeepsX 2000 t l = some true := by
  unfold law10_TownKeepsX
  simp only [joinK, wakes_at, Option.bind_some, few_eq]
  cases hfew : (decide ((t.length : Int) ≤ 35) && decide ((l.length : Int) ≤ 35)) with
  | false => rfl
  | true =>
    simp only [Bool.and_eq_true, decide_eq_true_eq] at hfew
    have hl1 : t.length ≤ 1000 := by omega
    have hl2 : l.length ≤ 1000 := by omega
    simp only [Bool.not_true, cond_false, validR_eq hl1 (Nat.le_refl 2000), usesR_eq hl2 (Nat.le_refl 2000), Option.bind_some, copyT_eq hl1 (Nat.le_refl 2000), copyL_eq hl2, FlowsX_eq (Nat.le_refl 2000) hl1 hl2]
    cases ht : townB t with
    | false => rfl
    | true =>
      cases hu : (usesB l && decide (l.length = t.length)) with
      | false => rfl
      | true =>
        rw [Bool.and_eq_true, decide_eq_true_eq] at hu
        simp only [Bool.not_true, cond_false, cond_true]
        by_cases hfull : fullI t (flowL t l) t.length 0 ≥ 0
        · simp [hfull]
        · have h2 := town_len ht
          have hlen : (flowL t l).length = t.length := (flowL_len t l).trans hu.2
          have h0 : (flowL t l)[0]? = some ((flowL t l)[0]'(by omega)) := List.getElem?_eq_getElem _
          have hk : KeepOK t l (flowL t l) t.length 0 (List.replicate (t.length : Int).toNat 0) l := by
            refine ⟨start_ok ht hu.1 hu.2, rfl, by simp, fun j b hj hb => ?_, fun _ => ?_, Int.le_refl _, by omega⟩
            · have hb0 : b = 0 := by
                rw [List.getElem?_replicate] at hb
                split at hb
                · exact (Option.some.inj hb).symm
                · cases hb
              subst hb0
              have hj' : l[j]? = some (l[j]'(by omega)) := List.getElem?_eq_getElem _
              exact ⟨_, hj', by rw [hj', Int.add_zero]⟩
            · unfold sumT
              rw [List.take_replicate, List.sum_replicate_int]
              simp
          have key := keeps_loop 2000 (x7 := (flowL t l, 0, 0)) (fun y14 => (getI (flowL t l) 0).bind fun x16 => bif (y14 == x16) then some true else some false) ht hu.1 (show fullI t (flowL t l) t.length 0 < 0 by omega) 2000 t.length 0 _ l (by omega) (Nat.le_refl _) hk
          have e1 : w64 ((t.length : Int) - 1) = (t.length : Int) - 1 := w64_id (by omega) (by omega)
          simp only [hfull, if_false, bne_self_eq_false, cond_false, hlen, chk, e1, show (decide (0 ≤ (t.length : Int)) && decide (8 * (t.length : Int) ≤ 281474976710656) && decide ((t.length : Int) ≤ 9223372036854775807)) = true from by simp; omega, cond_true]
          rw [key, if_neg (by omega), show (0 : Int) = ((0 : Nat) : Int) from rfl, getI_at h0, List.getD_eq_getElem?_getD, h0]
          simp
end Go.Proofs.Ytgdepcgbjjgnfaa
