/-
  Plain: what the flows of a town are: node by node from the last one up. No conditions.
-/
import Derived.Test.YtgdepcgbjjgnfaaPTownV
namespace Go.Proofs.Ytgdepcgbjjgnfaa
open Go.RowKit
def Qgw (o : Int) (x : GNode) : Int := if o > 0 then o + x.Loss else o
def stp (x : GNode) (o : Int) (out : List Int) (i : Nat) : List Int :=
 if x.Parent ≥ 0 then (out.set i (Qgw o x)).set x.Parent.toNat (out.getD x.Parent.toNat 0 + Qgw o x) else out.set i (Qgw o x)
def run (t : List GNode) : Nat → List Int → List Int
 | 0, out => out
 | m + 1, out => match t[m]?, out[m]? with
  | some x, some o => run t m (stp x o out m)
  | _, _ => out
def Qdv (t : List GNode) (uses : List Int) : List Int := run t t.length uses
theorem Qvj (x : GNode) (o : Int) (out : List Int) (i : Nat) : (stp x o out i).length = out.length := by unfold stp; split <;> simp
theorem Qnz (t : List GNode) : ∀ (m : Nat) (out : List Int), (run t m out).length = out.length
 | 0, _ => rfl
 | m + 1, out => by
  rw [run]
  split
  ·rw [Qnz t m, Qvj]
  ·rfl
def sumT (l : List Int) (m : Nat) : Int := (l.take m).sum
theorem Qj9 {l : List Int} {m : Nat} {x : Int} (h : l[m]? = some x) : sumT l (m + 1) = sumT l m + x := by
 unfold sumT
 rw [List.take_add_one, h]
 simp
theorem Qk4 {l : List Int} {m i : Nat} {x : Int} (h : m ≤ i) : sumT (l.set i x) m = sumT l m := by
 unfold sumT
 rw [List.take_set_of_le h]
theorem Qx3 {l : List Int} : ∀ {m i : Nat} {x y : Int}, i < m → l[i]? = some y → sumT (l.set i x) m = sumT l m - y + x := by
 unfold sumT
 induction l with
 | nil => intro m i x y _ h; simp at h
 | cons a l ih =>
  intro m i x y hm h
  cases m with
  | zero => omega
  | succ m =>
   cases i with
   | zero => simp at h; subst h; simp; omega
   | succ i =>
    have := ih (m := m) (i := i) (x := x) (y := y) (by omega) (by simpa using h)
    simp only [List.set_cons_succ, List.take_succ_cons, List.sum_cons, this]
    omega
structure FlowOK (t : List GNode) (m : Nat) (out : List Int) : Prop where
 len : out.length = t.length
 pos : ∀ (i : Nat) x, out[i]? = some x → 0 ≤ x
 bd : sumT out m + 1000000000 * m ≤ 100000000000
theorem Qoa {l : List Int} (h : ∀ (i : Nat) x, l[i]? = some x → 0 ≤ x) : ∀ {m i : Nat} {x : Int}, i < m → l[i]? = some x → 0 ≤ x ∧ x ≤ sumT l m
 | 0, _, _, hm, _ => absurd hm (Nat.not_lt_zero _)
 | m + 1, i, x, hm, hx => by
  have nn : ∀ m, 0 ≤ sumT l m := fun m => by
   induction m with
   | zero => simp [sumT]
   | succ m ih =>
    cases hl : l[m]? with
    | none => unfold sumT at ih ⊢; rw [List.take_add_one, hl]; simpa using ih
    | some y => rw [Qj9 hl]; have := h m y hl; omega
  refine ⟨h i x hx, ?_⟩
  rcases Nat.lt_or_ge i m with hlt | hge
  ·have h1 := Qoa h hlt hx
   cases hl : l[m]? with
   | none => unfold sumT at h1 ⊢; rw [List.take_add_one, hl]; simpa using h1.2
   | some y => rw [Qj9 hl]; have := h m y hl; omega
  ·have : i = m := by omega
   subst this
   rw [Qj9 hx]
   have := nn i
   omega
theorem Qfc {l : List Int} {i j : Nat} {x : Int} : (l.set i x)[j]? = if i = j then (if i < l.length then some x else none) else l[j]? := List.getElem?_set ..
theorem Qsj {t : List GNode} (ht : Qem t = true) {m : Nat} {out : List Int} (h : FlowOK t (m + 1) out) {x : GNode} {o : Int} (hx : t[m]? = some x) (ho : out[m]? = some o) :
  FlowOK t m (stp x o out m) ∧ 0 ≤ o ∧ o ≤ 100000000000 ∧ 0 ≤ Qgw o x ∧ Qgw o x ≤ 100000000000 ∧ (x.Parent ≥ 0 → x.Parent < m ∧ ∃ p, out[x.Parent.toNat]? = some p ∧ 0 ≤ p ∧ p + Qgw o x ≤ 100000000000) := by
 have hn := Qkx ht hx
 obtain ⟨l0, l1⟩ := hn.loss
 have hm : m < t.length := (List.getElem?_eq_some_iff.1 hx).1
 have hb := h.bd
 obtain ⟨o0, o1⟩ := Qoa h.pos (Nat.lt_succ_self m) ho
 have hs := Qj9 ho
 have hlo : Qgw o x ≤ o + 1000000000 := by unfold Qgw; split <;> omega
 have hl0 : 0 ≤ Qgw o x := by unfold Qgw; split <;> omega
 have nn : 0 ≤ sumT out m := by
  rcases Nat.eq_zero_or_pos m with e | hp
  ·subst e; simp [sumT]
  ·have h0 : out[0]? = some (out[0]'(by rw [h.len]; omega)) := List.getElem?_eq_getElem _
   have := Qoa h.pos hp h0
   omega
 refine ⟨⟨by rw [Qvj, h.len], fun i y hi => ?_, ?_⟩, o0, by omega, hl0, by omega, fun hp => ?_⟩
 ·unfold stp at hi
  split at hi
  ·rw [Qfc] at hi
   split at hi
   ·split at hi
    ·cases hi
     have : 0 ≤ out.getD x.Parent.toNat 0 := by
      rw [List.getD_eq_getElem?_getD]
      cases hq : out[x.Parent.toNat]? with
      | none => simp
      | some q => exact h.pos _ q hq
     omega
    ·cases hi
   ·rw [Qfc] at hi
    split at hi
    ·split at hi
     ·cases hi; exact hl0
     ·cases hi
    ·exact h.pos i y hi
  ·rw [Qfc] at hi
   split at hi
   ·split at hi
    ·cases hi; exact hl0
    ·cases hi
   ·exact h.pos i y hi
 ·unfold stp
  split
  ·rename_i hp
   have hm0 : 0 < m := by
    rcases Nat.eq_zero_or_pos m with e | hp'
    ·have := (hn.top e).1; omega
    ·exact hp'
   obtain ⟨p0, p1⟩ := hn.par hm0
   have hlt : x.Parent.toNat < m := by omega
   have hq : out[x.Parent.toNat]? = some (out[x.Parent.toNat]'(by rw [h.len]; omega)) := List.getElem?_eq_getElem _
   have hq' : (out.set m (Qgw o x))[x.Parent.toNat]? = some (out[x.Parent.toNat]'(by rw [h.len]; omega)) := by rw [Qfc, if_neg (by omega), hq]
   rw [Qx3 hlt hq', Qk4 (Nat.le_refl m), List.getD_eq_getElem?_getD, hq, Option.getD_some]
   omega
  ·rw [Qk4 (Nat.le_refl m)]
   omega
 ·have hm0 : 0 < m := by
   rcases Nat.eq_zero_or_pos m with e | hp'
   ·have := (hn.top e).1; omega
   ·exact hp'
  obtain ⟨p0, p1⟩ := hn.par hm0
  have hlt : x.Parent.toNat < m := by omega
  have hq : out[x.Parent.toNat]? = some (out[x.Parent.toNat]'(by rw [h.len]; omega)) := List.getElem?_eq_getElem _
  obtain ⟨q0, q1⟩ := Qoa h.pos hlt hq
  exact ⟨p1, _, hq, q0, by omega⟩
theorem up_eq {N : Nat} {t : List GNode} (ht : Qem t = true) {m : Nat} {out : List Int} (h : FlowOK t (m + 1) out) {x : GNode} {o : Int} (hx : t[m]? = some x) (ho : out[m]? = some o) :
  Qdi N m t.length t out = some (stp x o out m) := by
 obtain ⟨_, o0, o1, l0, l1, hp⟩ := Qsj ht h hx ho
 have hm : m < t.length := (List.getElem?_eq_some_iff.1 hx).1
 have hm' : decide (m < t.length) = true := by simpa using hm
 have hset : ∀ v, (out.set m v)[m]? = some v := fun v => by rw [Qfc, if_pos rfl, if_pos (by rw [h.len]; exact hm)]
 unfold Qdi stp
 simp only [Qck, chk, Int.toNat_natCast, ho, Option.bind_some, Qd4 hx, hm', show decide (0 ≤ (m : Int)) = true from by simp, Bool.and_self, cond_true]
 by_cases hpos : o > 0
 ·have e3 : w64 (o + x.Loss) = Qgw o x := by
   unfold Qgw at l1 ⊢
   rw [if_pos hpos] at l1 ⊢
   have := (Qkx ht hx).loss
   exact Qb2 (by omega) (by omega)
  simp only [show decide (o > 0) = true from by simpa using hpos, cond_true, e3]
  by_cases hpp : x.Parent ≥ 0
  ·obtain ⟨p1, p, hq, q0, q1⟩ := hp hpp
   have e1 : (out.set m (Qgw o x))[x.Parent.toNat]? = some p := by rw [Qfc, if_neg (by omega), hq]
   have e2 : w64 (p + Qgw o x) = p + Qgw o x := Qb2 (by omega) (by omega)
   simp only [hpp, decide_true, show decide (x.Parent.toNat < t.length) = true from by simp; omega, Bool.and_self, cond_true, e1, hset, Option.bind_some, if_true, List.getD_eq_getElem?_getD, hq, Option.getD_some, e2]
  ·simp only [hpp, decide_false, cond_false, if_false]
 ·have e3 : out.set m (Qgw o x) = out := by
   unfold Qgw
   rw [if_neg hpos]
   refine List.ext_getElem? fun i => ?_
   rw [Qfc]
   split
   ·rename_i e
    subst e
    rw [if_pos (by rw [h.len]; exact hm), ho]
   ·rfl
  have e4 : Qgw o x = o := by rw [Qgw, if_neg hpos]
  rw [e4] at e3
  simp only [show decide (o > 0) = false from by simpa using hpos, cond_false, e3, e4]
  by_cases hpp : x.Parent ≥ 0
  ·obtain ⟨p1, p, hq, q0, q1⟩ := hp hpp
   rw [e4] at q1
   have e2 : w64 (p + o) = p + o := Qb2 (by omega) (by omega)
   simp only [hpp, decide_true, show decide (x.Parent.toNat < t.length) = true from by simp; omega, Bool.and_self, cond_true, Option.bind_some, if_true, List.getD_eq_getElem?_getD, hq, Option.getD_some, e2]
  ·simp only [hpp, decide_false, cond_false, if_false]
def Qmf (t : List GNode) : Nat → List (Int × GNode)
 | 0 => []
 | m + 1 => match t[m]? with
  | some x => ((m : Int), x) :: Qmf t m
  | none => []
theorem Qwx (N : Nat) (t : List GNode) (hl : t.length ≤ 1000) : ∀ (n m : Nat), m < n → m ≤ t.length → Qav N t n ((m : Int) - 1) = some (Qmf t m) := by
 intro n
 induction n with
 | zero => intro m h; omega
 | succ n ih =>
  intro m h hm
  rw [Qav]
  cases m with
  | zero => simp [Qmf]
  | succ m =>
   have e0 : (((m + 1 : Nat) : Int) - 1) = (m : Int) := by omega
   have hx : t[m]? = some (t[m]'(by omega)) := List.getElem?_eq_getElem _
   have e1 : w64 ((m : Int) - 1) = (m : Int) - 1 := Qb2 (by omega) (by omega)
   rw [e0, Qd4 hx, e1, Qmf, hx]
   simp only [Option.bind_some, show decide ((m : Int) ≥ 0) = true from by simp, cond_true]
   rw [ih m (by omega) (by omega)]
   rfl
theorem Qwy {N : Nat} {t : List GNode} (hl : t.length ≤ 1000) (hN : 2000 ≤ N) : Qbb N t = some (Qmf t t.length) := by
 unfold Qbb
 rw [Qb2 (by omega) (by omega), Option.bind_some]
 exact Qwx N t hl N t.length (by omega) (Nat.le_refl _)
theorem Qsq (N : Nat) {t : List GNode} (ht : Qem t = true) (p1 : List Int) (hp : p1.length = t.length) (k : List Int → Option (List Int)) : ∀ (m : Nat) (out : List Int), m ≤ t.length → FlowOK t m out → Qb0 N t p1 k (Qmf t m) out = k (run t m out)
 | 0, out, _, _ => by rw [Qmf, Qb0, run]
 | m + 1, out, hm, h => by
  have hx : t[m]? = some (t[m]'(by omega)) := List.getElem?_eq_getElem _
  have ho : out[m]? = some (out[m]'(by rw [h.len]; omega)) := List.getElem?_eq_getElem _
  rw [Qmf, hx, run, hx, ho]
  dsimp only
  rw [Qb0]
  dsimp only
  rw [hp, up_eq ht h hx ho, Option.bind_some]
  exact Qsq N ht p1 hp k m _ (by omega) (Qsj ht h hx ho).1
theorem Qsi : ∀ (l : List Int), Qek l = true → l.sum ≤ 1000000000 * l.length
 | [], _ => by simp
 | x :: l, h => by
  simp only [Qek, List.all_cons, Bool.and_eq_true, Qhf] at h
  have := Qsi l h.2
  simp only [List.sum_cons, List.length_cons]
  omega
theorem Qnw {t : List GNode} {l : List Int} (ht : Qem t = true) (hu : Qek l = true) (hl : l.length = t.length) : FlowOK t t.length l := by
 refine ⟨hl, fun i x hx => (Qsg hu hx).1, ?_⟩
 have h1 := Qsi l hu
 have h2 := Qfp ht
 unfold sumT
 rw [← hl, List.take_length]
 omega
theorem Qyk {N : Nat} {t : List GNode} {l : List Int} (hN : 2000 ≤ N) (ht : Qem t = true) (hu : Qek l = true) (hl : l.length = t.length) : Qes N t l = some (Qdv t l) := by
 have h2 := Qfp ht
 have hne : (!l.isEmpty) = true := by
  cases l with
  | nil => simp at hl; omega
  | cons => rfl
 unfold Qes Qcw Qbc
 simp only [chk, hne, cond_true, show decide ((0 + l.length) * 8 ≤ 140737488355328) = true from by simp; omega, Option.bind_some, Qck, Qwy (show t.length ≤ 1000 by omega) hN]
 rw [Qsq N ht l hl _ t.length l (Nat.le_refl _) (Qnw ht hu hl)]
 have hlen : (run t t.length l).length = l.length := Qnz t _ l
 simp only [hlen, Nat.le_refl, decide_true, cond_true, Qdv]
 rw [← hlen, List.take_length]
end Go.Proofs.Ytgdepcgbjjgnfaa
