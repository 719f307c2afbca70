/-
  Plain: what the flows of a town are: node by node from the last one up. No conditions.
-/
import Derived.Test.YtgdepcgbjjgnfaaPTownV
namespace Go.Proofs.Ytgdepcgbjjgnfaa
open Go.RowKit
def Qgi (o : Int) (x : GNode) : Int := if o > 0 then o + x.Loss else o
def stp (x : GNode) (o : Int) (out : List Int) (i : Nat) : List Int :=
 if x.Parent ≥ 0 then (out.set i (Qgi o x)).set x.Parent.toNat (out.getD x.Parent.toNat 0 + Qgi o x) else out.set i (Qgi o x)
def run (t : List GNode) : Nat → List Int → List Int
 | 0, out => out
 | m + 1, out => match t[m]?, out[m]? with
  | some x, some o => run t m (stp x o out m)
  | _, _ => out
def Qc0 (t : List GNode) (uses : List Int) : List Int := run t t.length uses
theorem Qvy (x : GNode) (o : Int) (out : List Int) (i : Nat) : (stp x o out i).length = out.length := by unfold stp; split <;> simp
theorem Qv0 (t : List GNode) : ∀ (m : Nat) (out : List Int), (run t m out).length = out.length
 | 0, _ => rfl
 | m + 1, out => by
  rw [run]
  split
  ·rw [Qv0 t m, Qvy]
  ·rfl
def sumT (l : List Int) (m : Nat) : Int := (l.take m).sum
theorem Qh8 {l : List Int} {m : Nat} {x : Int} (h : l[m]? = some x) : sumT l (m + 1) = sumT l m + x := by
 unfold sumT
 rw [List.take_add_one, h]
 simp
theorem Qhq {l : List Int} {m i : Nat} {x : Int} (h : m ≤ i) : sumT (l.set i x) m = sumT l m := by
 unfold sumT
 rw [List.take_set_of_le h]
theorem Qs8 {l : List Int} : ∀ {m i : Nat} {x y : Int}, i < m → l[i]? = some y → sumT (l.set i x) m = sumT l m - y + x := by
 unfold sumT
 induction l with
 | nil => intro m i x y _ h; simp at h
 | cons a l ih =>
  intro m i x y hm h
  cases m with
  | zero => omega
  | succ m =>
   cases i with
   | zero => simp at h; subst h; simp; omega
   | succ i =>
    have := ih (m := m) (i := i) (x := x) (y := y) (by omega) (by simpa using h)
    simp only [List.set_cons_succ, List.take_succ_cons, List.sum_cons, this]
    omega
structure FlowOK (t : List GNode) (m : Nat) (out : List Int) : Prop where
 len : out.length = t.length
 pos : ∀ (i : Nat) x, out[i]? = some x → 0 ≤ x
 bd : sumT out m + 1000000000 * m ≤ 100000000000
theorem Qlm {l : List Int} (h : ∀ (i : Nat) x, l[i]? = some x → 0 ≤ x) : ∀ {m i : Nat} {x : Int}, i < m → l[i]? = some x → 0 ≤ x ∧ x ≤ sumT l m
 | 0, _, _, hm, _ => absurd hm (Nat.not_lt_zero _)
 | m + 1, i, x, hm, hx => by
  have nn : ∀ m, 0 ≤ sumT l m := fun m => by
   induction m with
   | zero => simp [sumT]
   | succ m ih =>
    cases hl : l[m]? with
    | none => unfold sumT at ih ⊢; rw [List.take_add_one, hl]; simpa using ih
    | some y => rw [Qh8 hl]; have := h m y hl; omega
  refine ⟨h i x hx, ?_⟩
  rcases Nat.lt_or_ge i m with hlt | hge
  ·have h1 := Qlm h hlt hx
   cases hl : l[m]? with
   | none => unfold sumT at h1 ⊢; rw [List.take_add_one, hl]; simpa using h1.2
   | some y => rw [Qh8 hl]; have := h m y hl; omega
  ·have : i = m := by omega
   subst this
   rw [Qh8 hx]
   have := nn i
   omega
theorem Qe6 {l : List Int} {i j : Nat} {x : Int} : (l.set i x)[j]? = if i = j then (if i < l.length then some x else none) else l[j]? := List.getElem?_set ..
theorem stp_ok {t : List GNode} (ht : Qg6 t = true) {m : Nat} {out : List Int} (h : FlowOK t (m + 1) out) {x : GNode} {o : Int} (hx : t[m]? = some x) (ho : out[m]? = some o) :
  FlowOK t m (stp x o out m) ∧ 0 ≤ o ∧ o ≤ 100000000000 ∧ 0 ≤ Qgi o x ∧ Qgi o x ≤ 100000000000 ∧ (x.Parent ≥ 0 → x.Parent < m ∧ ∃ p, out[x.Parent.toNat]? = some p ∧ 0 ≤ p ∧ p + Qgi o x ≤ 100000000000) := by
 have hn := Qft ht hx
 obtain ⟨l0, l1⟩ := hn.loss
 have hm : m < t.length := (List.getElem?_eq_some_iff.1 hx).1
 have hb := h.bd
 obtain ⟨o0, o1⟩ := Qlm h.pos (Nat.lt_succ_self m) ho
 have hs := Qh8 ho
 have hlo : Qgi o x ≤ o + 1000000000 := by unfold Qgi; split <;> omega
 have hl0 : 0 ≤ Qgi o x := by unfold Qgi; split <;> omega
 have nn : 0 ≤ sumT out m := by
  rcases Nat.eq_zero_or_pos m with e | hp
  ·subst e; simp [sumT]
  ·have h0 : out[0]? = some (out[0]'(by rw [h.len]; omega)) := List.getElem?_eq_getElem _
   have := Qlm h.pos hp h0
   omega
 refine ⟨⟨by rw [Qvy, h.len], fun i y hi => ?_, ?_⟩, o0, by omega, hl0, by omega, fun hp => ?_⟩
 ·unfold stp at hi
  split at hi
  ·rw [Qe6] at hi
   split at hi
   ·split at hi
    ·cases hi
     have : 0 ≤ out.getD x.Parent.toNat 0 := by
      rw [List.getD_eq_getElem?_getD]
      cases hq : out[x.Parent.toNat]? with
      | none => simp
      | some q => exact h.pos _ q hq
     omega
    ·cases hi
   ·rw [Qe6] at hi
    split at hi
    ·split at hi
     ·cases hi; exact hl0
     ·cases hi
    ·exact h.pos i y hi
  ·rw [Qe6] at hi
   split at hi
   ·split at hi
    ·cases hi; exact hl0
    ·cases hi
   ·exact h.pos i y hi
 ·unfold stp
  split
  ·rename_i hp
   have hm0 : 0 < m := by
    rcases Nat.eq_zero_or_pos m with e | hp'
    ·have := (hn.top e).1; omega
    ·exact hp'
   obtain ⟨p0, p1⟩ := hn.par hm0
   have hlt : x.Parent.toNat < m := by omega
   have hq : out[x.Parent.toNat]? = some (out[x.Parent.toNat]'(by rw [h.len]; omega)) := List.getElem?_eq_getElem _
   have hq' : (out.set m (Qgi o x))[x.Parent.toNat]? = some (out[x.Parent.toNat]'(by rw [h.len]; omega)) := by rw [Qe6, if_neg (by omega), hq]
   rw [Qs8 hlt hq', Qhq (Nat.le_refl m), List.getD_eq_getElem?_getD, hq, Option.getD_some]
   omega
  ·rw [Qhq (Nat.le_refl m)]
   omega
 ·have hm0 : 0 < m := by
   rcases Nat.eq_zero_or_pos m with e | hp'
   ·have := (hn.top e).1; omega
   ·exact hp'
  obtain ⟨p0, p1⟩ := hn.par hm0
  have hlt : x.Parent.toNat < m := by omega
  have hq : out[x.Parent.toNat]? = some (out[x.Parent.toNat]'(by rw [h.len]; omega)) := List.getElem?_eq_getElem _
  obtain ⟨q0, q1⟩ := Qlm h.pos hlt hq
  exact ⟨p1, _, hq, q0, by omega⟩
def Qq3 (t : List GNode) : Nat → List (Int × GNode)
 | 0 => []
 | m + 1 => match t[m]? with
  | some x => ((m : Int), x) :: Qq3 t m
  | none => []
theorem Qxc (N : Nat) (t : List GNode) (hl : t.length ≤ 1000) : ∀ (n m : Nat), m < n → m ≤ t.length → Qav N t n ((m : Int) - 1) = some (Qq3 t m) := by
 intro n
 induction n with
 | zero => intro m h; omega
 | succ n ih =>
  intro m h hm
  rw [Qav]
  cases m with
  | zero => simp [Qq3]
  | succ m =>
   have e0 : (((m + 1 : Nat) : Int) - 1) = (m : Int) := by omega
   have hx : t[m]? = some (t[m]'(by omega)) := List.getElem?_eq_getElem _
   have e1 : w64 ((m : Int) - 1) = (m : Int) - 1 := Qc4 (by omega) (by omega)
   rw [e0, Qfo hx, e1, Qq3, hx]
   simp only [Option.bind_some, show decide ((m : Int) ≥ 0) = true from by simp, cond_true]
   rw [ih m (by omega) (by omega)]
   rfl
theorem back_eq {N : Nat} {t : List GNode} (hl : t.length ≤ 1000) (hN : 2000 ≤ N) : Qa3 N t = some (Qq3 t t.length) := by
 unfold Qa3
 rw [Qc4 (by omega) (by omega), Option.bind_some]
 exact Qxc N t hl N t.length (by omega) (Nat.le_refl _)
theorem Qs7 : ∀ (l : List Int), Qh1 l = true → l.sum ≤ 1000000000 * l.length
 | [], _ => by simp
 | x :: l, h => by
  simp only [Qh1, List.all_cons, Bool.and_eq_true, Qje] at h
  have := Qs7 l h.2
  simp only [List.sum_cons, List.length_cons]
  omega
theorem Qs9 {t : List GNode} {l : List Int} (ht : Qg6 t = true) (hu : Qh1 l = true) (hl : l.length = t.length) : FlowOK t t.length l := by
 refine ⟨hl, fun i x hx => (Qnz hu hx).1, ?_⟩
 have h1 := Qs7 l hu
 have h2 := Qij ht
 unfold sumT
 rw [← hl, List.take_length]
 omega
end Go.Proofs.Ytgdepcgbjjgnfaa
