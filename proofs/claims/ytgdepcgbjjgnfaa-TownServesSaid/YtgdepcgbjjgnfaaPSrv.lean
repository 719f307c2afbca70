/-
  Plain: who is served: the order of the nodes, and the walk through it, in the program's words and in the document's. No conditions.
-/
import Derived.Test.YtgdepcgbjjgnfaaX15
import Derived.Test.YtgdepcgbjjgnfaaPFlowR
import Derived.Test.YtgdepcgbjjgnfaaPSym10
namespace Go.Proofs.Ytgdepcgbjjgnfaa
open Go.RowKit
def gi (l : List Int) (i : Nat) : Int := l.getD i 0
theorem Qjs {l : List Int} {i : Nat} (h : i < l.length) : l[i]? = some (gi l i) := by
 rw [gi, List.getD_eq_getElem?_getD, List.getElem?_eq_getElem h, Option.getD_some]
theorem gi_of {l : List Int} {i : Nat} {x : Int} (h : l[i]? = some x) : gi l i = x := by rw [gi, List.getD_eq_getElem?_getD, h, Option.getD_some]
theorem gi_set {l : List Int} {m k : Nat} {v : Int} (h : m < l.length) : gi (l.set m v) k = if k = m then v else gi l k := by
 unfold gi
 rw [List.getD_eq_getElem?_getD, List.getElem?_set, List.getD_eq_getElem?_getD]
 by_cases e : k = m
 ·subst e
  rw [if_pos rfl, if_pos h, if_pos rfl, Option.getD_some]
 ·rw [if_neg (Ne.symm e), if_neg e]
theorem Qh4 {l : List Int} {m : Nat} (h : m < l.length) : l.set m (gi l m) = l := by
 refine List.ext_getElem? fun k => ?_
 rw [List.getElem?_set]
 by_cases e : m = k
 ·subst e; rw [if_pos rfl, if_pos h, Qjs h]
 ·rw [if_neg e]
def gb (l : List Bool) (i : Nat) : Bool := l.getD i false
theorem Qqs {l : List Bool} {i : Nat} (h : i < l.length) : l[i]? = some (gb l i) := by
 rw [gb, List.getD_eq_getElem?_getD, List.getElem?_eq_getElem h, Option.getD_some]
theorem Qpi {l : List Bool} {m k : Nat} {v : Bool} (h : m < l.length) : gb (l.set m v) k = if k = m then v else gb l k := by
 unfold gb
 rw [List.getD_eq_getElem?_getD, List.getElem?_set, List.getD_eq_getElem?_getD]
 by_cases e : k = m
 ·subst e
  rw [if_pos rfl, if_pos h, if_pos rfl, Option.getD_some]
 ·rw [if_neg (Ne.symm e), if_neg e]
theorem Ql3 {l : List Bool} {m : Nat} (h : m < l.length) : l.set m (gb l m) = l := by
 refine List.ext_getElem? fun k => ?_
 rw [List.getElem?_set]
 by_cases e : m = k
 ·subst e; rw [if_pos rfl, if_pos h, Qqs h]
 ·rw [if_neg e]
def idxF : Nat → Nat → List Int
 | 0, _ => []
 | d + 1, i => (i : Int) :: idxF d (i + 1)
theorem Qkc : ∀ {d i : Nat} {x : Int}, x ∈ idxF d i ↔ (i : Int) ≤ x ∧ x < ((i + d : Nat) : Int)
 | 0, i, x => by
  simp [idxF]
  try omega
 | d + 1, i, x => by
  rw [idxF, List.mem_cons, Qkc (d := d) (i := i + 1)]
  omega
theorem Qiu : ∀ (d i : Nat), (idxF d i).length = d
 | 0, _ => rfl
 | d + 1, i => by rw [idxF, List.length_cons, Qiu d]
theorem Qvu : ∀ (d i : Nat), (idxF d i).Pairwise (· < ·)
 | 0, _ => List.Pairwise.nil
 | d + 1, i => by
  rw [idxF, List.pairwise_cons]
  exact ⟨fun x hx => by have := Qkc.1 hx; omega, Qvu d (i + 1)⟩
theorem Qmt {t : List GNode} : ∀ {l k : List Int}, Srt t l → Srt t k → (∀ q, flt t q l = flt t q k) → l = k
 | [], k, _, _, h => by
  cases k with
  | nil => rfl
  | cons y k =>
   have := h (keyP t y)
   have hm := Qjr (t := t) (l := y :: k) (x := y) (by simp)
   rw [← this] at hm
   simp [flt] at hm
 | x :: l, [], _, _, h => by
   have := h (keyP t x)
   have hm := Qjr (t := t) (l := x :: l) (x := x) (by simp)
   rw [this] at hm
   simp [flt] at hm
 | x :: l, y :: k, h1, h2, h => by
  unfold Srt at h1 h2
  rw [List.pairwise_cons] at h1 h2
  have e : keyP t x = keyP t y := by
   have a : y ∈ x :: l := (Qfw ((h (keyP t y)).symm ▸ Qjr (t := t) (l := y :: k) (x := y) (by simp))).1
   have b : x ∈ y :: k := (Qfw ((h (keyP t x)) ▸ Qjr (t := t) (l := x :: l) (x := x) (by simp))).1
   have a' : keyP t x ≤ keyP t y := by
    rcases List.mem_cons.1 a with e | e
    ·rw [e]; exact Int.le_refl _
    ·exact h1.1 y e
   have b' : keyP t y ≤ keyP t x := by
    rcases List.mem_cons.1 b with e | e
    ·rw [e]; exact Int.le_refl _
    ·exact h2.1 x e
   omega
  have hx := h (keyP t x)
  unfold flt at hx
  rw [List.filter_cons, List.filter_cons, if_pos (by simp), if_pos (by simp [e])] at hx
  obtain rfl : x = y := (List.cons.inj hx).1
  have ih := Qmt (l := l) (k := k) h1.2 h2.2 fun q => by
   have hq := h q
   unfold flt at hq ⊢
   rw [List.filter_cons, List.filter_cons] at hq
   split at hq
   ·exact (List.cons.inj hq).2
   ·exact hq
  rw [ih]
def ordF (t : List GNode) : Nat → List Int
 | 0 => []
 | m + 1 => ordF t m ++ flt t (m : Int) (idxF t.length 0)
theorem Qle {t : List GNode} : ∀ {m : Nat} {x : Int}, x ∈ ordF t m → keyP t x < m ∧ x ∈ idxF t.length 0
 | 0, _, h => by simp [ordF] at h
 | m + 1, x, h => by
  rw [ordF, List.mem_append] at h
  rcases h with h | h
  ·have := Qle h
   exact ⟨by omega, this.2⟩
  ·have := Qfw h
   exact ⟨by omega, this.1⟩
theorem Qo3 {t : List GNode} {k : Int} : ∀ {l : List Int}, (∀ x ∈ l, keyP t x = k) → Srt t l
 | [], _ => List.Pairwise.nil
 | x :: l, h => by
  unfold Srt
  rw [List.pairwise_cons]
  exact ⟨fun y hy => by rw [h x (by simp), h y (by simp [hy])]; exact Int.le_refl _, Qo3 fun y hy => h y (by simp [hy])⟩
theorem Qsf (t : List GNode) : ∀ m, Srt t (ordF t m)
 | 0 => List.Pairwise.nil
 | m + 1 => by
  unfold Srt
  rw [ordF, List.pairwise_append]
  refine ⟨Qsf t m, Qo3 fun x hx => (Qfw hx).2, fun x hx y hy => ?_⟩
  have := (Qle hx).1
  have := (Qfw hy).2
  omega
theorem flt_flt (t : List GNode) (a b : Int) (l : List Int) : flt t a (flt t b l) = if a = b then flt t b l else [] := by
 unfold flt
 rw [List.filter_filter]
 split
 ·rename_i e; subst e; simp
 ·rename_i e
  rw [List.filter_eq_nil_iff]
  intro x _ h
  simp at h
  omega
theorem Qlf (t : List GNode) (q : Int) : ∀ m : Nat, flt t q (ordF t m) = if 0 ≤ q ∧ q < m then flt t q (idxF t.length 0) else []
 | 0 => by
  rw [if_neg (by omega)]
  rfl
 | m + 1 => by
  rw [ordF, Qei, Qlf t q m, flt_flt]
  by_cases e : q = m
  ·subst e
   rw [if_neg (by omega), if_pos rfl, if_pos (by omega), List.nil_append]
  ·rw [if_neg e, List.append_nil]
   by_cases h : 0 ≤ q ∧ q < m
   ·rw [if_pos h, if_pos (by omega)]
   ·rw [if_neg h, if_neg (by omega)]
theorem Qn1 {t : List GNode} (ht : Qes t = true) {x : Int} (hx : x ∈ idxF t.length 0) : OkI t x := by
 have := Qkc.1 hx
 have hlt : x.toNat < t.length := by omega
 have hg : t[x.toNat]? = some t[x.toNat] := List.getElem?_eq_getElem hlt
 obtain ⟨r0, r1⟩ := (Qjq ht hg).rank
 exact ⟨by omega, _, hg, r0, r1⟩
theorem Qtn {t : List GNode} (ht : Qes t = true) {l : List Int} (h : Stb t (idxF t.length 0) l) : l = ordF t 101 := by
 refine Qmt h.srt (Qsf t 101) fun q => ?_
 rw [h.eqf, Qlf]
 split
 ·rfl
 ·rename_i hq
  refine Qke fun x hx e => ?_
  obtain ⟨_, n, h1, h2, h3⟩ := Qn1 ht hx
  unfold keyP at e
  rw [h1] at e
  dsimp only at e
  omega
theorem Qx0 (N : Nat) (t : List GNode) (K : List Int → Option (List Int)) (hl : t.length ≤ 1000) : ∀ (n d i : Nat) (acc : List Int), d < n → i + d = t.length → acc.length = i → Qbi N t K n i acc = K (acc ++ idxF d i) := by
 intro n
 induction n with
 | zero => intro d i acc h; omega
 | succ n ih =>
  intro d i acc h hd ha
  rw [Qbi]
  cases d with
  | zero => simp [show ¬ ((i : Int) < t.length) from by omega, idxF]
  | succ d =>
   have e1 : w64 ((i : Int) + 1) = ((i + 1 : Nat) : Int) := Qbr (by omega) (by omega)
   simp only [show decide ((i : Int) < t.length) = true from by simp; omega, cond_true, e1, chk, show decide ((acc.length + [(i : Int)].length) * 8 ≤ 140737488355328) = true from by simp; omega]
   rw [ih d (i + 1) _ (by omega) (by omega) (by simp [ha]), idxF]
   simp
theorem Qu8 {N : Nat} {t : List GNode} (hN : 2000 ≤ N) (ht : Qes t = true) : Qc3 N t = some (ordF t 101) := by
 obtain ⟨h1, h2⟩ := Qe5 ht
 unfold Qc3
 simp only [Qcd]
 have := Qx0 N t (fun y3 => chk (!y3.isEmpty) <| (Qbn N y3.length y3 t).bind fun x7 => chk (decide (y3.length ≤ x7.length)) <| some (x7.take y3.length)) (by omega) N t.length 0 [] (by omega) (by omega) rfl
 rw [show ((0 : Nat) : Int) = 0 from rfl, List.nil_append] at this
 rw [this]
 obtain ⟨D, d1, d2⟩ := sort_eq (t := t) (N := N) (D := idxF t.length 0) (by rw [Qiu]; omega) (by rw [Qiu]; omega) (by omega) (fun x hx => Qn1 ht hx)
 have hlen := Stb.len d1.eqf
 have hne : (!(idxF t.length 0).isEmpty) = true := by
  cases hh : idxF t.length 0 with
  | nil => have := Qiu t.length 0; rw [hh] at this; simp at this; omega
  | cons => rfl
 simp only [chk, hne, cond_true, d2, Option.bind_some, hlen, Nat.le_refl, decide_true]
 rw [← hlen, List.take_length, Qtn ht d1]
theorem ordR2 (N : Nat) (t : List GNode) (r : Nat) (K : List Int → Option (List Int)) (hl : t.length ≤ 30) : ∀ (n d i : Nat) (acc : List Int), d < n → i + d = t.length → acc.length ≤ 30 * r + i → r ≤ 101 → Qcu N t r K n acc i = K (acc ++ flt t r (idxF d i)) := by
 intro n
 induction n with
 | zero => intro d i acc h; omega
 | succ n ih =>
  intro d i acc h hd ha hr
  rw [Qcu]
  cases d with
  | zero => simp [show ¬ ((i : Int) < t.length) from by omega, idxF, flt]
  | succ d =>
   have e1 : w64 ((i : Int) + 1) = ((i + 1 : Nat) : Int) := Qbr (by omega) (by omega)
   have hg : t[i]? = some (t[i]'(by omega)) := List.getElem?_eq_getElem _
   have hk : keyP t (i : Int) = (t[i]'(by omega)).Rank := by unfold keyP; rw [Int.toNat_natCast, hg]
   simp only [show decide ((i : Int) < t.length) = true from by simp; omega, cond_true, e1, Qeh hg, Option.bind_some, ← hk]
   by_cases hq : keyP t (i : Int) = (r : Int)
   ·simp only [hq, beq_self_eq_true, cond_true, chk, show decide ((acc.length + [(i : Int)].length) * 8 ≤ 140737488355328) = true from by simp; omega]
    rw [ih d (i + 1) _ (by omega) (by omega) (by simp; omega) hr, idxF]
    unfold flt
    rw [List.filter_cons, if_pos (by simpa using hq)]
    simp
   ·simp only [show (keyP t (i : Int) == (r : Int)) = false from beq_eq_false_iff_ne.2 hq, cond_false]
    rw [ih d (i + 1) _ (by omega) (by omega) (by omega) hr, idxF]
    unfold flt
    rw [List.filter_cons, if_neg (by simpa using hq)]
theorem ordR1 (N : Nat) (t : List GNode) (K : List Int → Option (List Int)) (hN : 2000 ≤ N) (hl : t.length ≤ 30) : ∀ (n d r : Nat), d < n → r + d = 101 → (ordF t r).length ≤ 30 * r → Qcv N t K n (ordF t r) r = K (ordF t 101) := by
 intro n
 induction n with
 | zero => intro d r h; omega
 | succ n ih =>
  intro d r h hd ha
  rw [Qcv]
  cases d with
  | zero =>
   obtain rfl : r = 101 := by omega
   simp
  | succ d =>
   have e1 : w64 ((r : Int) + 1) = ((r + 1 : Nat) : Int) := Qbr (by omega) (by omega)
   simp only [show decide ((r : Int) ≤ 100) = true from decide_eq_true (by omega), cond_true, Qcd, e1]
   have := ordR2 N t r (fun y9 => Qcv N t K n y9 ((r + 1 : Nat) : Int)) hl N t.length 0 (ordF t r) (by omega) (by omega) (by omega) (by omega)
   rw [show ((0 : Nat) : Int) = 0 from rfl] at this
   rw [this]
   have hle : (ordF t (r + 1)).length ≤ 30 * (r + 1) := by
    rw [ordF, List.length_append]
    have : (flt t (r : Int) (idxF t.length 0)).length ≤ (idxF t.length 0).length := List.length_filter_le ..
    rw [Qiu] at this
    omega
   exact ih d (r + 1) (by omega) (by omega) hle
theorem Qxp {N : Nat} {t : List GNode} (hN : 2000 ≤ N) (ht : Qes t = true) : Qgf N t = some (ordF t 101) := by
 obtain ⟨h1, h2⟩ := Qe5 ht
 unfold Qgf
 simp only [Qcd]
 have := ordR1 N t (fun y1 => some y1) hN h2 N 101 0 (by omega) (by omega) (by simp [ordF])
 rw [show ordF t 0 = [] from rfl, show ((0 : Nat) : Int) = 0 from rfl] at this
 exact this
theorem Qqp {t : List GNode} (ht : Qes t = true) {x : Int} : x ∈ ordF t 101 ↔ 0 ≤ x ∧ x < t.length := by
 constructor
 ·intro h
  have := Qkc.1 (Qle h).2
  omega
 ·intro h
  have hm : x ∈ idxF t.length 0 := Qkc.2 (by omega)
  obtain ⟨_, n, h1, h2, h3⟩ := Qn1 ht hm
  have hk : keyP t x = n.Rank := by unfold keyP; rw [h1]
  have := Qlf t (keyP t x) 101
  rw [if_pos (by omega)] at this
  have hm2 := Qjr (t := t) hm
  rw [← this] at hm2
  exact (Qfw hm2).1
def Ahd (t : List GNode) (a b : Int) : Prop := keyP t a < keyP t b ∨ keyP t a = keyP t b ∧ a < b
theorem Qse (t : List GNode) : ∀ m, (ordF t m).Pairwise (Ahd t)
 | 0 => List.Pairwise.nil
 | m + 1 => by
  rw [ordF, List.pairwise_append]
  refine ⟨Qse t m, ?_, fun x hx y hy => ?_⟩
  ·have h1 : (flt t (m : Int) (idxF t.length 0)).Pairwise (· < ·) := (Qvu t.length 0).sublist List.filter_sublist
   refine h1.imp_of_mem fun {a b} ha hb hab => Or.inr ⟨?_, hab⟩
   rw [(Qfw ha).2, (Qfw hb).2]
  ·have := (Qle hx).1
   have := (Qfw hy).2
   exact Or.inl (by omega)
theorem Qo8 (N : Nat) {t : List GNode} (ht : Qes t = true) (p1 : Nat) (p2 : List Int) (hp : (p2.take p1).length = t.length) (k : List Int → Option (List Int)) : ∀ (m : Nat) (out : List Int), m ≤ t.length → FlowOK t m out → Qbo N t p1 p2 k (Qps t m) out = k (run t m out)
 | 0, out, _, _ => by rw [Qps, Qbo, run]
 | m + 1, out, hm, h => by
  have hx : t[m]? = some (t[m]'(by omega)) := List.getElem?_eq_getElem _
  have ho : out[m]? = some (out[m]'(by rw [h.len]; omega)) := List.getElem?_eq_getElem _
  rw [Qps, hx, run, hx, ho]
  dsimp only
  rw [Qbo]
  dsimp only
  rw [hp, up_eq ht h hx ho, Option.bind_some]
  exact Qo8 N ht p1 p2 hp k m _ (by omega) (Quz ht h hx ho).1
theorem Qv1 {N : Nat} {t : List GNode} {l : List Int} (hN : 2000 ≤ N) (ht : Qes t = true) (hu : Qe4 l = true) (hl : l.length = t.length) : Qd2 N t t.length l = some (Qdu t l) := by
 have h2 := Qe5 ht
 have hne : (!l.isEmpty) = true := by
  cases l with
  | nil => simp at hl; omega
  | cons => rfl
 have htk : l.take t.length = l := by rw [← hl, List.take_length]
 unfold Qd2 Qde Qbl
 simp only [chk, htk, hne, cond_true, show decide (t.length ≤ l.length) = true from decide_eq_true (by omega), show decide ((0 + l.length) * 8 ≤ 140737488355328) = true from by simp; omega, Option.bind_some, Qcd, back_eq (show t.length ≤ 1000 by omega) hN]
 have := Qo8 N ht t.length l (by rw [htk, hl]) (fun y6 => bif decide (l.length ≤ y6.length) then some (y6.take l.length) else none) t.length l (Nat.le_refl _) (Qr6 ht hu hl)
 rw [this]
 have hlen : (run t t.length l).length = l.length := Qqj t _ l
 simp only [hlen, Nat.le_refl, decide_true, cond_true, Qdu]
 rw [← hlen, List.take_length]
theorem Qn0 (N : Nat) {t : List GNode} {l : List Int} (rec_ : List GNode → Nat → Int → List Int → Option Int) (i : Nat) (k : Int → Option Int) (hs : t.length ≤ 1000) (hL : ∀ j, 0 ≤ (Qdu t l).getD j 0) (hrec : ∀ j : Nat, i < j → j < t.length → rec_ t t.length j l = some ((Qdu t l).getD j 0)) : ∀ (n d a : Nat) (acc : Int), d < n → a + d = t.length → i < a → 0 ≤ acc → acc + chS t (Qdu t l) i d a ≤ 100000000000 →
  Qcq N t rec_ t.length i l k n acc a = k (acc + chS t (Qdu t l) i d a) := by
 intro n
 induction n with
 | zero => intro d a _ h; omega
 | succ n ih =>
  intro d a acc h hd ha h0 hb
  rw [Qcq]
  cases d with
  | zero => simp [show ¬ ((a : Int) < t.length) from by omega, chS]
  | succ d =>
   have hx : t[a]? = some (t[a]'(by omega)) := List.getElem?_eq_getElem _
   generalize t[a]'(by omega) = x at hx
   have e1 : w64 ((a : Int) + 1) = ((a + 1 : Nat) : Int) := Qbr (by omega) (by omega)
   rw [chS, hx] at hb ⊢
   dsimp only at hb ⊢
   have hc := Qqy hL (t := t) i d (a + 1)
   have hLa := hL a
   simp only [show decide ((a : Int) < t.length) = true from by simp; omega, cond_true, Qeh hx, Option.bind_some, e1]
   by_cases hp : x.Parent = (i : Int)
   ·rw [if_pos hp] at hb ⊢
    simp only [show (x.Parent == (i : Int)) = true from by simpa using hp, cond_true, hrec a ha (by omega), Option.bind_some]
    rw [Qbr (by omega) (by omega), ih d (a + 1) _ (by omega) (by omega) (by omega) (by omega) (by omega), Int.add_assoc]
   ·rw [if_neg hp] at hb ⊢
    simp only [show (x.Parent == (i : Int)) = false from by simpa using hp, cond_false]
    rw [ih d (a + 1) acc (by omega) (by omega) (by omega) h0 (by omega), Int.zero_add]
theorem Qhw {t : List GNode} {l : List Int} (ht : Qes t = true) (hu : Qe4 l = true) (hl : l.length = t.length) : ∀ (D i N : Nat), t.length - i ≤ D → i < t.length → 100 + D ≤ N → Qdf N t t.length i l = some ((Qdu t l).getD i 0)
 | 0, i, N, h, hi, _ => by omega
 | D + 1, i, N, h, hi, hN => by
  have h2 := Qe5 ht
  obtain ⟨M, rfl⟩ : ∃ M, N = M + 1 := ⟨N - 1, by omega⟩
  have hx : t[i]? = some (t[i]'hi) := List.getElem?_eq_getElem _
  generalize t[i]'hi = x at hx
  have hg : l[i]? = some (l[i]'(by omega)) := List.getElem?_eq_getElem _
  have hgd : l.getD i 0 = l[i]'(by omega) := by rw [List.getD_eq_getElem?_getD, hg, Option.getD_some]
  obtain ⟨f1, f2, f3⟩ := Ql4 ht hu hl hx
  have hu0 := Qr3 hu hg
  have hc := Qqy (Qso ht hu hl) (t := t) i (t.length - (i + 1)) (i + 1)
  have hn := Qjq ht hx
  have hle : l.getD i 0 + chS t (Qdu t l) i (t.length - (i + 1)) (i + 1) ≤ (Qdu t l).getD i 0 := by
   rw [f1]
   unfold Qgg
   have := hn.loss
   split <;> omega
  show Qd3 M (Qdf M) t t.length i l = _
  unfold Qd3
  simp only [chk, Int.toNat_natCast, show decide (0 ≤ (i : Int)) = true from decide_eq_true (by omega), show decide (i < t.length) = true from decide_eq_true hi, Bool.and_self, cond_true]
  rw [hg, Option.bind_some]
  simp only [Qcd]
  have e1 : w64 ((i : Int) + 1) = ((i + 1 : Nat) : Int) := Qbr (by omega) (by omega)
  rw [e1, ← hgd, Qn0 M (Qdf M) i _ (by omega) (Qso ht hu hl) (fun j hj hjt => Qhw ht hu hl D j M (by omega) hjt (by omega)) M (t.length - (i + 1)) (i + 1) _ (by omega) (by omega) (by omega) (by rw [hgd]; exact hu0.1) (by omega)]
  generalize hT : l.getD i 0 + chS t (Qdu t l) i (t.length - (i + 1)) (i + 1) = T at f1 hle
  rw [f1] at f3 ⊢
  unfold Qgg at f3 ⊢
  by_cases hpos : T > 0
  ·rw [if_pos hpos] at f3 ⊢
   have := hn.loss
   simp only [show decide (T > 0) = true from by simpa using hpos, cond_true, Qeh hx, Option.bind_some]
   rw [Qbr (by omega) (by omega)]
  ·rw [if_neg hpos]
   simp [hpos]
theorem Qnz (N : Nat) {t : List GNode} {l : List Int} (hN : 2000 ≤ N) (ht : Qes t = true) (hu : Qe4 l = true) (hl : l.length = t.length) : ∀ (n d i : Nat), d < n → i + d = t.length → 0 < i → Qc1 N t t.length (fun _ => some (-1)) l n i = some (Qho t (Qdu t l) d i) := by
 have h2 := Qe5 ht
 intro n
 induction n with
 | zero => intro d i h; omega
 | succ n ih =>
  intro d i h hd hi
  rw [Qc1]
  cases d with
  | zero => simp [show ¬ ((i : Int) < t.length) from by omega, Qho]
  | succ d =>
   have hx : t[i]? = some (t[i]'(by omega)) := List.getElem?_eq_getElem _
   have e1 : w64 ((i : Int) + 1) = ((i + 1 : Nat) : Int) := Qbr (by omega) (by omega)
   simp only [show decide ((i : Int) < t.length) = true from by simp; omega, cond_true, Qhw ht hu hl t.length i N (by omega) (by omega) (by omega), Qeh hx, Option.bind_some, e1, ih d (i + 1) (by omega) (by omega) (by omega)]
   rw [Qho, Qxy, hx]
   dsimp only
   by_cases hc : (Qdu t l).getD i 0 > t[i].Limit
   ·rw [if_pos ⟨hi, hc⟩, show decide ((Qdu t l).getD i 0 > t[i].Limit) = true from decide_eq_true hc, cond_true]
   ·rw [if_neg (fun h => hc h.2), show decide ((Qdu t l).getD i 0 > t[i].Limit) = false from decide_eq_false hc, cond_false]
theorem Qqo {N : Nat} {t : List GNode} {l : List Int} (hN : 2000 ≤ N) (ht : Qes t = true) (hu : Qe4 l = true) (hl : l.length = t.length) : Qfl N t t.length l = some (Qho t (Qdu t l) t.length 0) := by
 have h2 := Qe5 ht
 unfold Qfl
 simp only [Qcd]
 have := Qnz N hN ht hu hl N (t.length - 1) 1 (by omega) (by omega) (by omega)
 rw [show ((1 : Nat) : Int) = 1 from rfl] at this
 rw [this, show t.length = (t.length - 1) + 1 by omega, Qho, if_neg (by omega)]
 simp
def Qid (t : List GNode) (sup : Int) (now : List Int) : Bool := decide (Qho t (Qdu t now) t.length 0 < 0) && decide ((Qdu t now).getD 0 0 ≤ sup)
def srvL (good : List Int → Bool) (uses : List Int) : List Int → List Int → List Bool → List Int × List Bool
 | [], now, sv => (now, sv)
 | i :: l, now, sv => if gi uses i.toNat ≠ 0 ∧ good (now.set i.toNat (gi uses i.toNat)) = true then srvL good uses l (now.set i.toNat (gi uses i.toNat)) (sv.set i.toNat true) else srvL good uses l now sv
structure Rel (uses : List Int) (n : Nat) (now : List Int) (sv : List Bool) : Prop where
 ln : now.length = n
 ls : sv.length = n
 eq : ∀ k, k < n → gi now k = if gb sv k = true then gi uses k else 0
 nz : ∀ k, k < n → gb sv k = true → gi uses k ≠ 0
theorem Rel.set {uses now : List Int} {n i : Nat} {sv : List Bool} (h : Rel uses n now sv) (hi : i < n) (h0 : gi uses i ≠ 0) : Rel uses n (now.set i (gi uses i)) (sv.set i true) := by
 refine ⟨by simp [h.ln], by simp [h.ls], fun k hk => ?_, fun k hk hs => ?_⟩
 ·rw [gi_set (by rw [h.ln]; exact hi), Qpi (by rw [h.ls]; exact hi)]
  by_cases e : k = i
  ·subst e; simp
  ·rw [if_neg e, if_neg e]; exact h.eq k hk
 ·rw [Qpi (by rw [h.ls]; exact hi)] at hs
  by_cases e : k = i
  ·subst e; exact h0
  ·rw [if_neg e] at hs; exact h.nz k hk hs
theorem Rel.uses {uses now : List Int} {n : Nat} {sv : List Bool} (h : Rel uses n now sv) (hu : Qe4 uses = true) (hl : uses.length = n) : Qe4 now = true := by
 unfold Qe4
 rw [List.all_eq_true]
 intro x hx
 obtain ⟨k, hk⟩ := List.getElem?_of_mem hx
 have hkn : k < n := by rw [← h.ln]; exact (List.getElem?_eq_some_iff.1 hk).1
 have := h.eq k hkn
 rw [gi_of hk] at this
 rw [Qhg, this]
 split
 ·exact Qr3 hu (Qjs (by omega))
 ·omega
theorem Qqf {good : List Int → Bool} {uses : List Int} {n : Nat} : ∀ {l now : List Int} {sv : List Bool}, (∀ i ∈ l, 0 ≤ i ∧ i < n) → Rel uses n now sv → good now = true → Rel uses n (srvL good uses l now sv).1 (srvL good uses l now sv).2 ∧ good (srvL good uses l now sv).1 = true ∧ ∀ k : Nat, (k : Int) ∉ l → gb (srvL good uses l now sv).2 k = gb sv k
 | [], now, sv, _, h, hg => ⟨h, hg, fun _ _ => rfl⟩
 | i :: l, now, sv, hl, h, hg => by
  have hi := hl i (by simp)
  rw [srvL]
  split
  ·rename_i hc
   obtain ⟨a, b, c⟩ := Qqf (l := l) (fun j hj => hl j (by simp [hj])) (h.set (i := i.toNat) (by omega) hc.1) hc.2
   refine ⟨a, b, fun k hk => ?_⟩
   rw [c k (fun e => hk (by simp [e])), Qpi (by rw [h.ls]; omega), if_neg (fun e => hk (by simp; left; omega))]
  ·obtain ⟨a, b, c⟩ := Qqf (l := l) (fun j hj => hl j (by simp [hj])) h hg
   exact ⟨a, b, fun k hk => c k fun e => hk (by simp [e])⟩
theorem Qqi {N : Nat} {t : List GNode} {uses : List Int} {sup : Int} (hN : 2000 ≤ N) (ht : Qes t = true) (hu : Qe4 uses = true) (hl : uses.length = t.length) (K : Int × List Bool → Option (List Bool × Int × Int)) (ord : List Int) (ho : ord.length ≤ 1000) : ∀ (n : Nat) (l : List Int) (i : Nat) (now : List Int) (sv : List Bool), l.length < n → ord.drop i = l → (∀ j ∈ l, 0 ≤ j ∧ j < t.length) → l.Nodup → Rel uses t.length now sv → (∀ j ∈ l, gb sv j.toNat = false) →
  Qch N t uses sup K ord n ((Qdu t now).getD 0 0) i sv now = K ((Qdu t (srvL (Qid t sup) uses l now sv).1).getD 0 0, (srvL (Qid t sup) uses l now sv).2) := by
 have h2 := Qe5 ht
 intro n
 induction n with
 | zero => intro l i now sv h; omega
 | succ n ih =>
  intro l i now sv hn hd hm hnd hr hsv
  rw [Qch]
  cases l with
  | nil =>
   have := Qh5 hd
   simp [show ¬ ((i : Int) < ord.length) from by omega, srvL]
  | cons x l =>
   obtain ⟨hg, hd', hlt⟩ := Qg5 hd
   obtain ⟨x0, x1⟩ := hm x (by simp)
   have hnd' := List.nodup_cons.1 hnd
   obtain ⟨j, rfl⟩ : ∃ j : Nat, x = j := ⟨x.toNat, by omega⟩
   have hj : j < t.length := by omega
   have e1 : w64 ((i : Int) + 1) = ((i + 1 : Nat) : Int) := Qbr (by omega) (by omega)
   have hux := Qjs (l := uses) (i := j) (by omega)
   have hnx := Qjs (l := now) (i := j) (by rw [hr.ln]; omega)
   have hsx := Qqs (l := sv) (i := j) (by rw [hr.ls]; omega)
   have hrest := ih l (i + 1)
   have hml : ∀ q ∈ l, 0 ≤ q ∧ q < (t.length : Int) := fun q hq => hm q (by simp [hq])
   have hsvl : ∀ q ∈ l, gb sv q.toNat = false := fun q hq => hsv q (by simp [hq])
   simp only [show decide ((i : Int) < (ord.length : Int)) = true from decide_eq_true (by omega), cond_true, Qeh hg, Qeh hux, Option.bind_some, e1, srvL, Int.toNat_natCast]
   by_cases h0 : gi uses j = 0
   ·rw [show (gi uses j == 0) = true from beq_iff_eq.2 h0, cond_true, if_neg (fun hc => hc.1 h0)]
    exact hrest now sv (by simp at hn; omega) hd' hml hnd'.2 hr hsvl
   ·rw [show (gi uses j == 0) = false from beq_eq_false_iff_ne.2 h0, cond_false]
    have hr' := hr.set (i := j) hj h0
    have hu' := hr'.uses hu hl
    have hl' : (now.set j (gi uses j)).length = t.length := hr'.ln
    have hfl := Qv1 (N := N) hN ht hu' hl'
    have hfull := full_eq (N := N) (t := t) (l := Qdu t (now.set j (gi uses j))) hN ((Ql5 t _).trans hl') (by omega)
    have hf0 : (Qdu t (now.set j (gi uses j)))[0]? = some ((Qdu t (now.set j (gi uses j))).getD 0 0) := Qjs (l := Qdu t (now.set j (gi uses j))) (i := 0) (by rw [Ql5, hl']; omega)
    have hf0' : getI (Qdu t (now.set j (gi uses j))) 0 = some ((Qdu t (now.set j (gi uses j))).getD 0 0) := Qeh (i := 0) hf0
    have hback : (now.set j (gi uses j)).set j 0 = now := by
     rw [List.set_set]
     have := hr.eq j hj
     have hsj := hsv (j : Int) (by simp)
     rw [Int.toNat_natCast] at hsj
     rw [if_neg (by rw [hsj]; simp)] at this
     rw [← this]
     exact Qh4 (by rw [hr.ln]; omega)
    have hself : (now.set j (gi uses j))[j]? = some (gi uses j) := List.getElem?_set_self (by rw [hr.ln]; omega)
    simp only [chk, show decide (0 ≤ (j : Int)) = true from decide_eq_true (by omega), show decide (j < t.length) = true from decide_eq_true hj, Bool.and_self, cond_true, hnx, hsx, hself, Option.bind_some, hfl, hfull, hf0', Qcd, hback]
    unfold Qid
    by_cases hc1 : Qho t (Qdu t (now.set j (gi uses j))) t.length 0 ≥ 0
    ·rw [show decide (Qho t (Qdu t (now.set j (gi uses j))) t.length 0 ≥ 0) = true from decide_eq_true hc1, cond_true, if_neg (by simp; omega)]
     exact hrest now sv (by simp at hn; omega) hd' hml hnd'.2 hr hsvl
    ·rw [show decide (Qho t (Qdu t (now.set j (gi uses j))) t.length 0 ≥ 0) = false from decide_eq_false hc1, cond_false]
     by_cases hc2 : (Qdu t (now.set j (gi uses j))).getD 0 0 > sup
     ·rw [show decide ((Qdu t (now.set j (gi uses j))).getD 0 0 > sup) = true from decide_eq_true hc2, cond_true, if_neg (by simp only [Bool.and_eq_true, decide_eq_true_eq]; omega)]
      exact hrest now sv (by simp at hn; omega) hd' hml hnd'.2 hr hsvl
     ·rw [show decide ((Qdu t (now.set j (gi uses j))).getD 0 0 > sup) = false from decide_eq_false hc2, cond_false, if_pos (by simp only [Bool.and_eq_true, decide_eq_true_eq]; exact ⟨h0, by omega, by omega⟩)]
      exact hrest _ _ (by simp at hn; omega) hd' hml hnd'.2 hr' fun q hq => by
       obtain ⟨q0, q1⟩ := hml q hq
       rw [Qpi (by rw [hr.ls]; omega), if_neg (fun e => hnd'.1 (by rw [show (j : Int) = q by omega]; exact hq))]
       exact hsvl q hq
theorem Qqh {N : Nat} {t : List GNode} {uses : List Int} {sup : Int} (hN : 2000 ≤ N) (ht : Qes t = true) (hu : Qe4 uses = true) (hl : uses.length = t.length) (K : List Bool × List Int → Option (List Bool × Int)) (ord : List Int) (ho : ord.length ≤ 1000) : ∀ (n : Nat) (l : List Int) (i : Nat) (now : List Int) (sv : List Bool), l.length < n → ord.drop i = l → (∀ j ∈ l, 0 ≤ j ∧ j < t.length) → l.Nodup → Rel uses t.length now sv → Qid t sup now = true → (∀ j ∈ l, gb sv j.toNat = false) →
  Qck N t uses sup ord K n i sv now = K ((srvL (Qid t sup) uses l now sv).2, (srvL (Qid t sup) uses l now sv).1) := by
 have h2 := Qe5 ht
 intro n
 induction n with
 | zero => intro l i now sv h; omega
 | succ n ih =>
  intro l i now sv hn hd hm hnd hr hgood hsv
  rw [Qck]
  cases l with
  | nil =>
   have := Qh5 hd
   simp [show ¬ ((i : Int) < ord.length) from by omega, srvL]
  | cons x l =>
   obtain ⟨hg, hd', hlt⟩ := Qg5 hd
   obtain ⟨x0, x1⟩ := hm x (by simp)
   have hnd' := List.nodup_cons.1 hnd
   obtain ⟨j, rfl⟩ : ∃ j : Nat, x = j := ⟨x.toNat, by omega⟩
   have hj : j < t.length := by omega
   have e1 : w64 ((i : Int) + 1) = ((i + 1 : Nat) : Int) := Qbr (by omega) (by omega)
   have hux := Qjs (l := uses) (i := j) (by omega)
   have hnx := Qjs (l := now) (i := j) (by rw [hr.ln]; omega)
   have hsx := Qqs (l := sv) (i := j) (by rw [hr.ls]; omega)
   have hrest := ih l (i + 1)
   have hml : ∀ q ∈ l, 0 ≤ q ∧ q < (t.length : Int) := fun q hq => hm q (by simp [hq])
   have hsvl : ∀ q ∈ l, gb sv q.toNat = false := fun q hq => hsv q (by simp [hq])
   have hsj := hsv (j : Int) (by simp)
   rw [Int.toNat_natCast] at hsj
   have hnj : gi now j = 0 := by
    have := hr.eq j hj
    rw [if_neg (by rw [hsj]; simp)] at this
    exact this
   have hu0 := Qr3 hu hux
   have hl' : (now.set j (gi uses j)).length = t.length := by simp [hr.ln]
   have hu' : Qe4 (now.set j (gi uses j)) = true := by
    by_cases h0 : gi uses j = 0
    ·rw [h0, ← hnj, Qh4 (by rw [hr.ln]; omega)]
     exact hr.uses hu hl
    ·exact (hr.set hj h0).uses hu hl
   have hfull := Qqo (N := N) hN ht hu' hl'
   have hflow := Qhw (l := now.set j (gi uses j)) ht hu' hl' t.length 0 N (by omega) (by omega) (by omega)
   rw [show ((0 : Nat) : Int) = 0 from rfl] at hflow
   have hback : (now.set j (gi uses j)).set j 0 = now := by
    rw [List.set_set, ← hnj]
    exact Qh4 (by rw [hr.ln]; omega)
   have hbackb : ∀ b, (sv.set j b).set j false = sv := fun b => by
    rw [List.set_set, ← hsj]
    exact Ql3 (by rw [hr.ls]; omega)
   have hself : (now.set j (gi uses j))[j]? = some (gi uses j) := List.getElem?_set_self (by rw [hr.ln]; omega)
   have hselfb : ∀ b, (sv.set j b)[j]? = some b := fun b => List.getElem?_set_self (by rw [hr.ls]; omega)
   simp only [show decide ((i : Int) < (ord.length : Int)) = true from decide_eq_true (by omega), cond_true, Qeh hg, Qeh hux, Option.bind_some, e1, srvL, Int.toNat_natCast, chk, show decide (0 ≤ (j : Int)) = true from decide_eq_true (by omega), show decide (j < t.length) = true from decide_eq_true hj, Bool.and_self, hnx, hsx, hself, hselfb, hfull, hflow, hback, hbackb]
   by_cases h0 : gi uses j = 0
   ·have hnow : now.set j (gi uses j) = now := by rw [h0, ← hnj]; exact Qh4 (by rw [hr.ln]; omega)
    have hsv0 : sv.set j (decide (gi uses j > 0)) = sv := by
     rw [h0, show decide ((0 : Int) > 0) = false from rfl, ← hsj]
     exact Ql3 (by rw [hr.ls]; omega)
    have hg2 := hgood
    unfold Qid at hg2
    simp only [Bool.and_eq_true, decide_eq_true_eq] at hg2
    rw [hnow, hsv0, show decide (Qho t (Qdu t now) t.length 0 ≥ 0) = false from decide_eq_false (by omega), cond_false, show decide ((Qdu t now).getD 0 0 > sup) = false from decide_eq_false (by omega), cond_false, if_neg (fun hc => hc.1 h0)]
    exact hrest now sv (by simp at hn; omega) hd' hml hnd'.2 hr hgood hsvl
   ·have hr' := hr.set (i := j) hj h0
    have hpos : decide (gi uses j > 0) = true := decide_eq_true (by omega)
    by_cases hc1 : Qho t (Qdu t (now.set j (gi uses j))) t.length 0 ≥ 0
    ·rw [show decide (Qho t (Qdu t (now.set j (gi uses j))) t.length 0 ≥ 0) = true from decide_eq_true hc1, cond_true, if_neg (by unfold Qid; simp; omega)]
     exact hrest now sv (by simp at hn; omega) hd' hml hnd'.2 hr hgood hsvl
    ·rw [show decide (Qho t (Qdu t (now.set j (gi uses j))) t.length 0 ≥ 0) = false from decide_eq_false hc1, cond_false]
     by_cases hc2 : (Qdu t (now.set j (gi uses j))).getD 0 0 > sup
     ·rw [show decide ((Qdu t (now.set j (gi uses j))).getD 0 0 > sup) = true from decide_eq_true hc2, cond_true, if_neg (by unfold Qid; simp only [Bool.and_eq_true, decide_eq_true_eq]; omega)]
      exact hrest now sv (by simp at hn; omega) hd' hml hnd'.2 hr hgood hsvl
     ·have hgd : Qid t sup (now.set j (gi uses j)) = true := by unfold Qid; simp only [Bool.and_eq_true, decide_eq_true_eq]; omega
      rw [show decide ((Qdu t (now.set j (gi uses j))).getD 0 0 > sup) = false from decide_eq_false hc2, cond_false, if_pos ⟨h0, hgd⟩, hpos]
      exact hrest _ _ (by simp at hn; omega) hd' hml hnd'.2 hr' hgd fun q hq => by
       obtain ⟨q0, q1⟩ := hml q hq
       rw [Qpi (by rw [hr.ls]; omega), if_neg (fun e => hnd'.1 (by rw [show (j : Int) = q by omega]; exact hq))]
       exact hsvl q hq
theorem Qsn (n k : Nat) : gb (List.replicate n false) k = false := by
 rw [gb, List.getD_eq_getElem?_getD, List.getElem?_replicate]
 split <;> rfl
theorem Qy8 (n k : Nat) : gi (List.replicate n 0) k = 0 := by
 rw [gi, List.getD_eq_getElem?_getD, List.getElem?_replicate]
 split <;> rfl
theorem Qlu (uses : List Int) (n : Nat) : Rel uses n (List.replicate n 0) (List.replicate n false) :=
 ⟨by simp, by simp, fun k _ => by rw [Qy8, Qsn]; simp, fun k _ h => by rw [Qsn] at h; cases h⟩
theorem Qvb {t : List GNode} (ht : Qes t = true) : (ordF t 101).Nodup ∧ (ordF t 101).length ≤ 1000 := by
 obtain ⟨h1, h2⟩ := Qe5 ht
 have hp : (ordF t 101).Nodup := (Qse t 101).imp fun {a b} h e => by
  subst e
  rcases h with h | h
  ·omega
  ·omega
 refine ⟨hp, ?_⟩
 have hf : ∀ k, flt t k (ordF t 101) = flt t k (idxF t.length 0) := fun k => by
  rw [Qlf]
  split
  ·rfl
  ·rename_i hq
   symm
   refine Qke fun x hx e => ?_
   obtain ⟨_, n, h1, h2, h3⟩ := Qn1 ht hx
   unfold keyP at e
   rw [h1] at e
   dsimp only at e
   omega
 have := Stb.len hf
 rw [Qiu] at this
 omega
theorem Qpj {t : List GNode} (ht : Qes t = true) : ∀ j, j < t.length → (Qdu t (List.replicate t.length 0)).getD j 0 = 0 := by
 have hu : Qe4 (List.replicate t.length 0) = true := by
  unfold Qe4
  rw [List.all_eq_true]
  intro x hx
  rw [(List.mem_replicate.1 hx).2]
  rfl
 have hl : (List.replicate t.length (0 : Int)).length = t.length := by simp
 have key : ∀ d j, t.length - j ≤ d → j < t.length → (Qdu t (List.replicate t.length 0)).getD j 0 = 0 := by
  intro d
  induction d with
  | zero => intro j h hj; omega
  | succ d ih =>
   intro j h hj
   have hx : t[j]? = some t[j] := List.getElem?_eq_getElem hj
   obtain ⟨f1, _, _⟩ := Ql4 ht hu hl hx
   have hc : ∀ q a, j < a → a + q = t.length → chS t (Qdu t (List.replicate t.length 0)) j q a = 0 := by
    intro q
    induction q with
    | zero => intro a _ _; rfl
    | succ q ihq =>
     intro a h1 h2
     rw [chS, ihq (a + 1) (by omega) (by omega), ih a (by omega) (by omega)]
     split
     ·split <;> rfl
     ·rfl
   rw [f1, hc _ _ (by omega) (by omega)]
   have := Qy8 t.length j
   unfold gi at this
   rw [this]
   rfl
 exact fun j hj => key t.length j (by omega) hj
theorem Qm0 {t : List GNode} {sup : Int} (ht : Qes t = true) (hs : 0 ≤ sup) : Qid t sup (List.replicate t.length 0) = true := by
 obtain ⟨h1, h2⟩ := Qe5 ht
 unfold Qid
 have hf := Qpj ht
 have hfull : ∀ d i, i + d = t.length → Qho t (Qdu t (List.replicate t.length 0)) d i = -1 := by
  intro d
  induction d with
  | zero => intro i _; rfl
  | succ d ih =>
   intro i h
   rw [Qho, ih (i + 1) (by omega), if_neg]
   rintro ⟨_, hc⟩
   rw [hf i (by omega)] at hc
   have hx : t[i]? = some t[i] := List.getElem?_eq_getElem (by omega)
   have := (Qjq ht hx).limit
   unfold Qxy at hc
   rw [hx] at hc
   dsimp only at hc
   omega
 rw [hfull t.length 0 (by omega), hf 0 (by omega)]
 simp only [Bool.and_eq_true, decide_eq_true_eq]
 omega
def svF (t : List GNode) (uses : List Int) (sup : Int) : List Int × List Bool := srvL (Qid t sup) uses (ordF t 101) (List.replicate t.length 0) (List.replicate t.length false)
theorem Quy {t : List GNode} {uses : List Int} {sup : Int} (ht : Qes t = true) (hs : 0 ≤ sup) : Rel uses t.length (svF t uses sup).1 (svF t uses sup).2 ∧ Qid t sup (svF t uses sup).1 = true := by
 obtain ⟨a, b, _⟩ := Qqf (good := Qid t sup) (uses := uses) (n := t.length) (l := ordF t 101) (fun i hi => (Qqp ht).1 hi) (Qlu uses t.length) (Qm0 ht hs)
 exact ⟨a, b⟩
theorem Qu5 {N : Nat} {t : List GNode} {l : List Int} {sup : Int} (hN : 2000 ≤ N) (ht : t.length ≤ 1000) (hl : l.length ≤ 1000) :
  Qfs N t l sup = some (bif Qes t then (bif Qe4 l && decide (l.length = t.length) then (bif btw sup 0 100000000000 then ((svF t l sup).2, (Qdu t (svF t l sup).1).getD 0 0, 0) else ([], 0, 2)) else ([], 0, 2)) else ([], 0, 1)) := by
 unfold Qfs
 rw [used_eq ht hl hN]
 cases h1 : Qes t with
 | false => rfl
 | true =>
  cases h2 : (Qe4 l && decide (l.length = t.length)) with
  | false => rfl
  | true =>
   rw [Bool.and_eq_true, decide_eq_true_eq] at h2
   simp only [cond_true, Option.bind_some, bne_self_eq_false, cond_false, Qj0]
   cases h3 : btw sup 0 100000000000 with
   | false => rfl
   | true =>
    obtain ⟨s0, _⟩ := Qhg.1 h3
    obtain ⟨nd, ol⟩ := Qvb h1
    obtain ⟨q1, q2⟩ := Qe5 h1
    have hz := Qpj h1 0 (by omega)
    have hlp := Qqi (N := N) (sup := sup) hN h1 h2.1 h2.2 (fun x => match x with | (y13, y14) => bif decide (t.length ≤ y14.length) then some (y14.take t.length, y13, 0) else none) (ordF t 101) ol N (ordF t 101) 0 (List.replicate t.length 0) (List.replicate t.length false) (by omega) rfl (fun j hj => (Qqp h1).1 hj) nd (Qlu l t.length) (fun j _ => Qsn _ _)
    have hsv : srvL (Qid t sup) l (ordF t 101) (List.replicate t.length 0) (List.replicate t.length false) = svF t l sup := rfl
    rw [hz, show ((0 : Nat) : Int) = 0 from rfl, hsv] at hlp
    obtain ⟨hr, _⟩ := Quy (uses := l) h1 s0
    simp only [Bool.not_true, cond_false, chk, Qcd, Int.toNat_natCast, show decide (0 ≤ (t.length : Int)) = true from decide_eq_true (by omega), show decide (1 * (t.length : Int) ≤ 281474976710656) = true from decide_eq_true (by omega), show decide (8 * (t.length : Int) ≤ 281474976710656) = true from decide_eq_true (by omega), show decide ((t.length : Int) ≤ 9223372036854775807) = true from decide_eq_true (by omega), Bool.and_self, cond_true, Qu8 hN h1, Option.bind_some]
    rw [hlp]
    have hln : (svF t l sup).2.length = t.length := hr.ls
    dsimp only
    rw [← hln, List.take_length, decide_eq_true (Nat.le_refl _), cond_true]
theorem Qu4 {N : Nat} {t : List GNode} {l : List Int} {sup : Int} (hN : 2000 ≤ N) (ht : Qes t = true) (hu : Qe4 l = true) (hl : l.length = t.length) (hs : 0 ≤ sup) : Qgd N t l sup = some ((svF t l sup).2, (Qdu t (svF t l sup).1).getD 0 0) := by
 obtain ⟨nd, ol⟩ := Qvb ht
 obtain ⟨q1, q2⟩ := Qe5 ht
 obtain ⟨hr, _⟩ := Quy (uses := l) ht hs
 unfold Qgd
 have hlp := Qqh (N := N) (sup := sup) hN ht hu hl (fun x => match x with | (y8, y9) => (Qdf N t t.length 0 y9).bind fun x12 => bif decide (t.length ≤ y8.length) then some (y8.take t.length, x12) else none) (ordF t 101) ol N (ordF t 101) 0 (List.replicate t.length 0) (List.replicate t.length false) (by omega) rfl (fun j hj => (Qqp ht).1 hj) nd (Qlu l t.length) (Qm0 ht hs) (fun j _ => Qsn _ _)
 have hsv : srvL (Qid t sup) l (ordF t 101) (List.replicate t.length 0) (List.replicate t.length false) = svF t l sup := rfl
 rw [show ((0 : Nat) : Int) = 0 from rfl, hsv] at hlp
 simp only [chk, Qcd, Int.toNat_natCast, show decide (0 ≤ (t.length : Int)) = true from decide_eq_true (by omega), show decide (1 * (t.length : Int) ≤ 281474976710656) = true from decide_eq_true (by omega), show decide (8 * (t.length : Int) ≤ 281474976710656) = true from decide_eq_true (by omega), show decide ((t.length : Int) ≤ 9223372036854775807) = true from decide_eq_true (by omega), Bool.and_self, cond_true, Qxp hN ht, Option.bind_some]
 rw [hlp]
 have hf := Qhw (l := (svF t l sup).1) ht (hr.uses hu hl) hr.ln t.length 0 N (by omega) (by omega) (by omega)
 rw [show ((0 : Nat) : Int) = 0 from rfl] at hf
 have hln : (svF t l sup).2.length = t.length := hr.ls
 dsimp only
 rw [hf, Option.bind_some, ← hln, List.take_length, decide_eq_true (Nat.le_refl _), cond_true]
theorem Qtj (N : Nat) (a : List Bool) (p : Int × Int) (q : Int) (hl : a.length ≤ 1000) (k : Unit → Option Bool) : ∀ (n d i : Nat), d < n → i + d = a.length → Qcc N (a, p) (a, q) k n i = k () := by
 intro n
 induction n with
 | zero => intro d i h; omega
 | succ n ih =>
  intro d i h hd
  rw [Qcc]
  cases d with
  | zero => simp [show ¬ ((i : Int) < a.length) from by omega]
  | succ d =>
   have hg : a[i]? = some (a[i]'(by omega)) := List.getElem?_eq_getElem _
   have e1 : w64 ((i : Int) + 1) = ((i + 1 : Nat) : Int) := Qbr (by omega) (by omega)
   simp only [show decide ((i : Int) < a.length) = true from by simp; omega, cond_true, Qeh hg, Option.bind_some, e1, beq_self_eq_true, Bool.not_true, cond_false]
   exact ih d (i + 1) (by omega) (by omega)
theorem Qu3 {N : Nat} (hN : 2000 ≤ N) (t : List GNode) (l : List Int) (sup : Int) : Qeb N t l sup = some true := by
 unfold Qeb
 simp only [few_eq, Option.bind_some, Qxf, Qcd]
 by_cases h1 : (t.length : Int) ≤ 35
 ·by_cases h2 : (l.length : Int) ≤ 35
  ·have ht : t.length ≤ 1000 := by omega
   have hl : l.length ≤ 1000 := by omega
   simp only [h1, h2, decide_true, Bool.and_self, Bool.not_true, cond_false, Qyh ht hN, Qyi hl, Option.bind_some, Qu5 hN ht hl, Qut ht hN, Qxg (t := t) hl hN, in_eq]
   cases h3 : Qes t with
   | false => rfl
   | true =>
    cases h4 : (Qe4 l && decide (l.length = t.length)) with
    | false => rfl
    | true =>
     cases h5 : btw sup 0 100000000000 with
     | false => rfl
     | true =>
      rw [Bool.and_eq_true, decide_eq_true_eq] at h4
      obtain ⟨s0, _⟩ := Qhg.1 h5
      obtain ⟨hr, _⟩ := Quy (uses := l) h3 s0
      have hs := Qtj N (svF t l sup).2 ((Qdu t (svF t l sup).1).getD 0 0, 0) ((Qdu t (svF t l sup).1).getD 0 0) (by rw [hr.ls]; omega) (fun _ => some true) N (svF t l sup).2.length 0 (by rw [hr.ls]; omega) (by omega)
      rw [show ((0 : Nat) : Int) = 0 from rfl] at hs
      simp only [cond_true, Bool.not_true, cond_false, bne_self_eq_false, Qu4 hN h3 h4.1 h4.2 s0, Option.bind_some, hs]
  ·simp [h2]
 ·simp [h1]
theorem Qqg (t : List GNode) (l : List Int) (sup : Int) (_ : Qph t) (_ : Qvx l) (_ : Ql2 sup) : Qeb 2000 t l sup = some true := Qu3 (Nat.le_refl _) t l sup
end Go.Proofs.Ytgdepcgbjjgnfaa
