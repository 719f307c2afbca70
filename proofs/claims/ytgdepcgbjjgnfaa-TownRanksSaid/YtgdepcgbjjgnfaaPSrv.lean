/-
  Plain: who is served: the order of the nodes, and the walk through it, in the program's words and in the document's. No conditions.
-/
import Derived.Test.YtgdepcgbjjgnfaaX15
import Derived.Test.YtgdepcgbjjgnfaaPFlowR
import Derived.Test.YtgdepcgbjjgnfaaPSym10
namespace Go.Proofs.Ytgdepcgbjjgnfaa
open Go.RowKit
def gi (l : List Int) (i : Nat) : Int := l.getD i 0
theorem Qeo {l : List Int} {i : Nat} (h : i < l.length) : l[i]? = some (gi l i) := by
 rw [gi, List.getD_eq_getElem?_getD, List.getElem?_eq_getElem h, Option.getD_some]
theorem gi_of {l : List Int} {i : Nat} {x : Int} (h : l[i]? = some x) : gi l i = x := by rw [gi, List.getD_eq_getElem?_getD, h, Option.getD_some]
theorem Qm4 {l : List Int} {m k : Nat} {v : Int} (h : m < l.length) : gi (l.set m v) k = if k = m then v else gi l k := by
 unfold gi
 rw [List.getD_eq_getElem?_getD, List.getElem?_set, List.getD_eq_getElem?_getD]
 by_cases e : k = m
 ·subst e
  rw [if_pos rfl, if_pos h, if_pos rfl, Option.getD_some]
 ·rw [if_neg (Ne.symm e), if_neg e]
theorem Qq8 {l : List Int} {m : Nat} (h : m < l.length) : l.set m (gi l m) = l := by
 refine List.ext_getElem? fun k => ?_
 rw [List.getElem?_set]
 by_cases e : m = k
 ·subst e; rw [if_pos rfl, if_pos h, Qeo h]
 ·rw [if_neg e]
def gb (l : List Bool) (i : Nat) : Bool := l.getD i false
theorem Qod {l : List Bool} {i : Nat} (h : i < l.length) : l[i]? = some (gb l i) := by
 rw [gb, List.getD_eq_getElem?_getD, List.getElem?_eq_getElem h, Option.getD_some]
theorem Qps {l : List Bool} {m k : Nat} {v : Bool} (h : m < l.length) : gb (l.set m v) k = if k = m then v else gb l k := by
 unfold gb
 rw [List.getD_eq_getElem?_getD, List.getElem?_set, List.getD_eq_getElem?_getD]
 by_cases e : k = m
 ·subst e
  rw [if_pos rfl, if_pos h, if_pos rfl, Option.getD_some]
 ·rw [if_neg (Ne.symm e), if_neg e]
def idxF : Nat → Nat → List Int
 | 0, _ => []
 | d + 1, i => (i : Int) :: idxF d (i + 1)
theorem Qkd : ∀ {d i : Nat} {x : Int}, x ∈ idxF d i ↔ (i : Int) ≤ x ∧ x < ((i + d : Nat) : Int)
 | 0, i, x => by
  simp [idxF]
  try omega
 | d + 1, i, x => by
  rw [idxF, List.mem_cons, Qkd (d := d) (i := i + 1)]
  omega
theorem Qke : ∀ (d i : Nat), (idxF d i).length = d
 | 0, _ => rfl
 | d + 1, i => by rw [idxF, List.length_cons, Qke d]
theorem Qv8 : ∀ (d i : Nat), (idxF d i).Pairwise (· < ·)
 | 0, _ => List.Pairwise.nil
 | d + 1, i => by
  rw [idxF, List.pairwise_cons]
  exact ⟨fun x hx => by have := Qkd.1 hx; omega, Qv8 d (i + 1)⟩
theorem Qmv {t : List GNode} : ∀ {l k : List Int}, Srt t l → Srt t k → (∀ q, flt t q l = flt t q k) → l = k
 | [], k, _, _, h => by
  cases k with
  | nil => rfl
  | cons y k =>
   have := h (keyP t y)
   have hm := Qjr (t := t) (l := y :: k) (x := y) (by simp)
   rw [← this] at hm
   simp [flt] at hm
 | x :: l, [], _, _, h => by
   have := h (keyP t x)
   have hm := Qjr (t := t) (l := x :: l) (x := x) (by simp)
   rw [this] at hm
   simp [flt] at hm
 | x :: l, y :: k, h1, h2, h => by
  unfold Srt at h1 h2
  rw [List.pairwise_cons] at h1 h2
  have e : keyP t x = keyP t y := by
   have a : y ∈ x :: l := (Qf4 ((h (keyP t y)).symm ▸ Qjr (t := t) (l := y :: k) (x := y) (by simp))).1
   have b : x ∈ y :: k := (Qf4 ((h (keyP t x)) ▸ Qjr (t := t) (l := x :: l) (x := x) (by simp))).1
   have a' : keyP t x ≤ keyP t y := by
    rcases List.mem_cons.1 a with e | e
    ·rw [e]; exact Int.le_refl _
    ·exact h1.1 y e
   have b' : keyP t y ≤ keyP t x := by
    rcases List.mem_cons.1 b with e | e
    ·rw [e]; exact Int.le_refl _
    ·exact h2.1 x e
   omega
  have hx := h (keyP t x)
  unfold flt at hx
  rw [List.filter_cons, List.filter_cons, if_pos (by simp), if_pos (by simp [e])] at hx
  obtain rfl : x = y := (List.cons.inj hx).1
  have ih := Qmv (l := l) (k := k) h1.2 h2.2 fun q => by
   have hq := h q
   unfold flt at hq ⊢
   rw [List.filter_cons, List.filter_cons] at hq
   split at hq
   ·exact (List.cons.inj hq).2
   ·exact hq
  rw [ih]
def ordF (t : List GNode) : Nat → List Int
 | 0 => []
 | m + 1 => ordF t m ++ flt t (m : Int) (idxF t.length 0)
theorem Qli {t : List GNode} : ∀ {m : Nat} {x : Int}, x ∈ ordF t m → keyP t x < m ∧ x ∈ idxF t.length 0
 | 0, _, h => by simp [ordF] at h
 | m + 1, x, h => by
  rw [ordF, List.mem_append] at h
  rcases h with h | h
  ·have := Qli h
   exact ⟨by omega, this.2⟩
  ·have := Qf4 h
   exact ⟨by omega, this.1⟩
theorem Qpd {t : List GNode} {k : Int} : ∀ {l : List Int}, (∀ x ∈ l, keyP t x = k) → Srt t l
 | [], _ => List.Pairwise.nil
 | x :: l, h => by
  unfold Srt
  rw [List.pairwise_cons]
  exact ⟨fun y hy => by rw [h x (by simp), h y (by simp [hy])]; exact Int.le_refl _, Qpd fun y hy => h y (by simp [hy])⟩
theorem Qsr (t : List GNode) : ∀ m, Srt t (ordF t m)
 | 0 => List.Pairwise.nil
 | m + 1 => by
  unfold Srt
  rw [ordF, List.pairwise_append]
  refine ⟨Qsr t m, Qpd fun x hx => (Qf4 hx).2, fun x hx y hy => ?_⟩
  have := (Qli hx).1
  have := (Qf4 hy).2
  omega
theorem flt_flt (t : List GNode) (a b : Int) (l : List Int) : flt t a (flt t b l) = if a = b then flt t b l else [] := by
 unfold flt
 rw [List.filter_filter]
 split
 ·rename_i e; subst e; simp
 ·rename_i e
  rw [List.filter_eq_nil_iff]
  intro x _ h
  simp at h
  omega
theorem Qlj (t : List GNode) (q : Int) : ∀ m : Nat, flt t q (ordF t m) = if 0 ≤ q ∧ q < m then flt t q (idxF t.length 0) else []
 | 0 => by
  rw [if_neg (by omega)]
  rfl
 | m + 1 => by
  rw [ordF, Qep, Qlj t q m, flt_flt]
  by_cases e : q = m
  ·subst e
   rw [if_neg (by omega), if_pos rfl, if_pos (by omega), List.nil_append]
  ·rw [if_neg e, List.append_nil]
   by_cases h : 0 ≤ q ∧ q < m
   ·rw [if_pos h, if_pos (by omega)]
   ·rw [if_neg h, if_neg (by omega)]
theorem Qn5 {t : List GNode} (ht : Qem t = true) {x : Int} (hx : x ∈ idxF t.length 0) : OkI t x := by
 have := Qkd.1 hx
 have hlt : x.toNat < t.length := by omega
 have hg : t[x.toNat]? = some t[x.toNat] := List.getElem?_eq_getElem hlt
 obtain ⟨r0, r1⟩ := (Qkx ht hg).rank
 exact ⟨by omega, _, hg, r0, r1⟩
theorem Qt3 {t : List GNode} (ht : Qem t = true) {l : List Int} (h : Stb t (idxF t.length 0) l) : l = ordF t 101 := by
 refine Qmv h.srt (Qsr t 101) fun q => ?_
 rw [h.eqf, Qlj]
 split
 ·rfl
 ·rename_i hq
  refine Qkg fun x hx e => ?_
  obtain ⟨_, n, h1, h2, h3⟩ := Qn5 ht hx
  unfold keyP at e
  rw [h1] at e
  dsimp only at e
  omega
theorem Qyi (N : Nat) (t : List GNode) (K : List Int → Option (List Int)) (hl : t.length ≤ 1000) : ∀ (n d i : Nat) (acc : List Int), d < n → i + d = t.length → acc.length = i → Qbl N t K n i acc = K (acc ++ idxF d i) := by
 intro n
 induction n with
 | zero => intro d i acc h; omega
 | succ n ih =>
  intro d i acc h hd ha
  rw [Qbl]
  cases d with
  | zero => simp [show ¬ ((i : Int) < t.length) from by omega, idxF]
  | succ d =>
   have e1 : w64 ((i : Int) + 1) = ((i + 1 : Nat) : Int) := Qb2 (by omega) (by omega)
   simp only [show decide ((i : Int) < t.length) = true from by simp; omega, cond_true, e1, chk, show decide ((acc.length + [(i : Int)].length) * 8 ≤ 140737488355328) = true from by simp; omega]
   rw [ih d (i + 1) _ (by omega) (by omega) (by simp [ha]), idxF]
   simp
theorem Qvp {N : Nat} {t : List GNode} (hN : 2000 ≤ N) (ht : Qem t = true) : Qc6 N t = some (ordF t 101) := by
 obtain ⟨h1, h2⟩ := Qfp ht
 unfold Qc6
 simp only [Qck]
 have := Qyi N t (fun y3 => chk (!y3.isEmpty) <| (Qbq N y3.length y3 t).bind fun x7 => chk (decide (y3.length ≤ x7.length)) <| some (x7.take y3.length)) (by omega) N t.length 0 [] (by omega) (by omega) rfl
 rw [show ((0 : Nat) : Int) = 0 from rfl, List.nil_append] at this
 rw [this]
 obtain ⟨D, d1, d2⟩ := sort_eq (t := t) (N := N) (D := idxF t.length 0) (by rw [Qke]; omega) (by rw [Qke]; omega) (by omega) (fun x hx => Qn5 ht hx)
 have hlen := Stb.len d1.eqf
 have hne : (!(idxF t.length 0).isEmpty) = true := by
  cases hh : idxF t.length 0 with
  | nil => have := Qke t.length 0; rw [hh] at this; simp at this; omega
  | cons => rfl
 simp only [chk, hne, cond_true, d2, Option.bind_some, hlen, Nat.le_refl, decide_true]
 rw [← hlen, List.take_length, Qt3 ht d1]
theorem Ql5 {t : List GNode} (ht : Qem t = true) {x : Int} : x ∈ ordF t 101 ↔ 0 ≤ x ∧ x < t.length := by
 constructor
 ·intro h
  have := Qkd.1 (Qli h).2
  omega
 ·intro h
  have hm : x ∈ idxF t.length 0 := Qkd.2 (by omega)
  obtain ⟨_, n, h1, h2, h3⟩ := Qn5 ht hm
  have hk : keyP t x = n.Rank := by unfold keyP; rw [h1]
  have := Qlj t (keyP t x) 101
  rw [if_pos (by omega)] at this
  have hm2 := Qjr (t := t) hm
  rw [← this] at hm2
  exact (Qf4 hm2).1
def Ahd (t : List GNode) (a b : Int) : Prop := keyP t a < keyP t b ∨ keyP t a = keyP t b ∧ a < b
theorem Qn3 (t : List GNode) : ∀ m, (ordF t m).Pairwise (Ahd t)
 | 0 => List.Pairwise.nil
 | m + 1 => by
  rw [ordF, List.pairwise_append]
  refine ⟨Qn3 t m, ?_, fun x hx y hy => ?_⟩
  ·have h1 : (flt t (m : Int) (idxF t.length 0)).Pairwise (· < ·) := (Qv8 t.length 0).sublist List.filter_sublist
   refine h1.imp_of_mem fun {a b} ha hb hab => Or.inr ⟨?_, hab⟩
   rw [(Qf4 ha).2, (Qf4 hb).2]
  ·have := (Qli hx).1
   have := (Qf4 hy).2
   exact Or.inl (by omega)
theorem Qpi (N : Nat) {t : List GNode} (ht : Qem t = true) (p1 : Nat) (p2 : List Int) (hp : (p2.take p1).length = t.length) (k : List Int → Option (List Int)) : ∀ (m : Nat) (out : List Int), m ≤ t.length → FlowOK t m out → Qbr N t p1 p2 k (Qmf t m) out = k (run t m out)
 | 0, out, _, _ => by rw [Qmf, Qbr, run]
 | m + 1, out, hm, h => by
  have hx : t[m]? = some (t[m]'(by omega)) := List.getElem?_eq_getElem _
  have ho : out[m]? = some (out[m]'(by rw [h.len]; omega)) := List.getElem?_eq_getElem _
  rw [Qmf, hx, run, hx, ho]
  dsimp only
  rw [Qbr]
  dsimp only
  rw [hp, up_eq ht h hx ho, Option.bind_some]
  exact Qpi N ht p1 p2 hp k m _ (by omega) (Qsj ht h hx ho).1
theorem Qpu {N : Nat} {t : List GNode} {l : List Int} (hN : 2000 ≤ N) (ht : Qem t = true) (hu : Qek l = true) (hl : l.length = t.length) : Qdu N t t.length l = some (Qdv t l) := by
 have h2 := Qfp ht
 have hne : (!l.isEmpty) = true := by
  cases l with
  | nil => simp at hl; omega
  | cons => rfl
 have htk : l.take t.length = l := by rw [← hl, List.take_length]
 unfold Qdu Qcw Qbc
 simp only [chk, htk, hne, cond_true, show decide (t.length ≤ l.length) = true from decide_eq_true (by omega), show decide ((0 + l.length) * 8 ≤ 140737488355328) = true from by simp; omega, Option.bind_some, Qck, Qwy (show t.length ≤ 1000 by omega) hN]
 have := Qpi N ht t.length l (by rw [htk, hl]) (fun y6 => bif decide (l.length ≤ y6.length) then some (y6.take l.length) else none) t.length l (Nat.le_refl _) (Qnw ht hu hl)
 rw [this]
 have hlen : (run t t.length l).length = l.length := Qnz t _ l
 simp only [hlen, Nat.le_refl, decide_true, cond_true, Qdv]
 rw [← hlen, List.take_length]
def Qhu (t : List GNode) (sup : Int) (now : List Int) : Bool := decide (Qik t (Qdv t now) t.length 0 < 0) && decide ((Qdv t now).getD 0 0 ≤ sup)
def srvL (good : List Int → Bool) (uses : List Int) : List Int → List Int → List Bool → List Int × List Bool
 | [], now, sv => (now, sv)
 | i :: l, now, sv => if gi uses i.toNat ≠ 0 ∧ good (now.set i.toNat (gi uses i.toNat)) = true then srvL good uses l (now.set i.toNat (gi uses i.toNat)) (sv.set i.toNat true) else srvL good uses l now sv
structure Rel (uses : List Int) (n : Nat) (now : List Int) (sv : List Bool) : Prop where
 ln : now.length = n
 ls : sv.length = n
 eq : ∀ k, k < n → gi now k = if gb sv k = true then gi uses k else 0
 nz : ∀ k, k < n → gb sv k = true → gi uses k ≠ 0
theorem Rel.set {uses now : List Int} {n i : Nat} {sv : List Bool} (h : Rel uses n now sv) (hi : i < n) (h0 : gi uses i ≠ 0) : Rel uses n (now.set i (gi uses i)) (sv.set i true) := by
 refine ⟨by simp [h.ln], by simp [h.ls], fun k hk => ?_, fun k hk hs => ?_⟩
 ·rw [Qm4 (by rw [h.ln]; exact hi), Qps (by rw [h.ls]; exact hi)]
  by_cases e : k = i
  ·subst e; simp
  ·rw [if_neg e, if_neg e]; exact h.eq k hk
 ·rw [Qps (by rw [h.ls]; exact hi)] at hs
  by_cases e : k = i
  ·subst e; exact h0
  ·rw [if_neg e] at hs; exact h.nz k hk hs
theorem Rel.uses {uses now : List Int} {n : Nat} {sv : List Bool} (h : Rel uses n now sv) (hu : Qek uses = true) (hl : uses.length = n) : Qek now = true := by
 unfold Qek
 rw [List.all_eq_true]
 intro x hx
 obtain ⟨k, hk⟩ := List.getElem?_of_mem hx
 have hkn : k < n := by rw [← h.ln]; exact (List.getElem?_eq_some_iff.1 hk).1
 have := h.eq k hkn
 rw [gi_of hk] at this
 rw [Qhf, this]
 split
 ·exact Qsg hu (Qeo (by omega))
 ·omega
theorem Qkv {good : List Int → Bool} {uses : List Int} {n : Nat} : ∀ {l now : List Int} {sv : List Bool}, (∀ i ∈ l, 0 ≤ i ∧ i < n) → Rel uses n now sv → good now = true → Rel uses n (srvL good uses l now sv).1 (srvL good uses l now sv).2 ∧ good (srvL good uses l now sv).1 = true ∧ ∀ k : Nat, (k : Int) ∉ l → gb (srvL good uses l now sv).2 k = gb sv k
 | [], now, sv, _, h, hg => ⟨h, hg, fun _ _ => rfl⟩
 | i :: l, now, sv, hl, h, hg => by
  have hi := hl i (by simp)
  rw [srvL]
  split
  ·rename_i hc
   obtain ⟨a, b, c⟩ := Qkv (l := l) (fun j hj => hl j (by simp [hj])) (h.set (i := i.toNat) (by omega) hc.1) hc.2
   refine ⟨a, b, fun k hk => ?_⟩
   rw [c k (fun e => hk (by simp [e])), Qps (by rw [h.ls]; omega), if_neg (fun e => hk (by simp; left; omega))]
  ·obtain ⟨a, b, c⟩ := Qkv (l := l) (fun j hj => hl j (by simp [hj])) h hg
   exact ⟨a, b, fun k hk => c k fun e => hk (by simp [e])⟩
theorem Qqv {good : List Int → Bool} {uses : List Int} : ∀ (A B now : List Int) (sv : List Bool), srvL good uses (A ++ B) now sv = srvL good uses B (srvL good uses A now sv).1 (srvL good uses A now sv).2
 | [], _, _, _ => rfl
 | i :: A, B, now, sv => by
  rw [List.cons_append, srvL, srvL]
  split
  ·exact Qqv A B _ _
  ·exact Qqv A B _ _
theorem Qqx {N : Nat} {t : List GNode} {uses : List Int} {sup : Int} (hN : 2000 ≤ N) (ht : Qem t = true) (hu : Qek uses = true) (hl : uses.length = t.length) (K : Int × List Bool → Option (List Bool × Int × Int)) (ord : List Int) (ho : ord.length ≤ 1000) : ∀ (n : Nat) (l : List Int) (i : Nat) (now : List Int) (sv : List Bool), l.length < n → ord.drop i = l → (∀ j ∈ l, 0 ≤ j ∧ j < t.length) → l.Nodup → Rel uses t.length now sv → (∀ j ∈ l, gb sv j.toNat = false) →
  Qco N t uses sup K ord n ((Qdv t now).getD 0 0) i sv now = K ((Qdv t (srvL (Qhu t sup) uses l now sv).1).getD 0 0, (srvL (Qhu t sup) uses l now sv).2) := by
 have h2 := Qfp ht
 intro n
 induction n with
 | zero => intro l i now sv h; omega
 | succ n ih =>
  intro l i now sv hn hd hm hnd hr hsv
  rw [Qco]
  cases l with
  | nil =>
   have := Qib hd
   simp [show ¬ ((i : Int) < ord.length) from by omega, srvL]
  | cons x l =>
   obtain ⟨hg, hd', hlt⟩ := Qhe hd
   obtain ⟨x0, x1⟩ := hm x (by simp)
   have hnd' := List.nodup_cons.1 hnd
   obtain ⟨j, rfl⟩ : ∃ j : Nat, x = j := ⟨x.toNat, by omega⟩
   have hj : j < t.length := by omega
   have e1 : w64 ((i : Int) + 1) = ((i + 1 : Nat) : Int) := Qb2 (by omega) (by omega)
   have hux := Qeo (l := uses) (i := j) (by omega)
   have hnx := Qeo (l := now) (i := j) (by rw [hr.ln]; omega)
   have hsx := Qod (l := sv) (i := j) (by rw [hr.ls]; omega)
   have hrest := ih l (i + 1)
   have hml : ∀ q ∈ l, 0 ≤ q ∧ q < (t.length : Int) := fun q hq => hm q (by simp [hq])
   have hsvl : ∀ q ∈ l, gb sv q.toNat = false := fun q hq => hsv q (by simp [hq])
   simp only [show decide ((i : Int) < (ord.length : Int)) = true from decide_eq_true (by omega), cond_true, Qd4 hg, Qd4 hux, Option.bind_some, e1, srvL, Int.toNat_natCast]
   by_cases h0 : gi uses j = 0
   ·rw [show (gi uses j == 0) = true from beq_iff_eq.2 h0, cond_true, if_neg (fun hc => hc.1 h0)]
    exact hrest now sv (by simp at hn; omega) hd' hml hnd'.2 hr hsvl
   ·rw [show (gi uses j == 0) = false from beq_eq_false_iff_ne.2 h0, cond_false]
    have hr' := hr.set (i := j) hj h0
    have hu' := hr'.uses hu hl
    have hl' : (now.set j (gi uses j)).length = t.length := hr'.ln
    have hfl := Qpu (N := N) hN ht hu' hl'
    have hfull := Qq9 (N := N) (t := t) (l := Qdv t (now.set j (gi uses j))) hN ((Qgo t _).trans hl') (by omega)
    have hf0 : (Qdv t (now.set j (gi uses j)))[0]? = some ((Qdv t (now.set j (gi uses j))).getD 0 0) := Qeo (l := Qdv t (now.set j (gi uses j))) (i := 0) (by rw [Qgo, hl']; omega)
    have hf0' : getI (Qdv t (now.set j (gi uses j))) 0 = some ((Qdv t (now.set j (gi uses j))).getD 0 0) := Qd4 (i := 0) hf0
    have hback : (now.set j (gi uses j)).set j 0 = now := by
     rw [List.set_set]
     have := hr.eq j hj
     have hsj := hsv (j : Int) (by simp)
     rw [Int.toNat_natCast] at hsj
     rw [if_neg (by rw [hsj]; simp)] at this
     rw [← this]
     exact Qq8 (by rw [hr.ln]; omega)
    have hself : (now.set j (gi uses j))[j]? = some (gi uses j) := List.getElem?_set_self (by rw [hr.ln]; omega)
    simp only [chk, show decide (0 ≤ (j : Int)) = true from decide_eq_true (by omega), show decide (j < t.length) = true from decide_eq_true hj, Bool.and_self, cond_true, hnx, hsx, hself, Option.bind_some, hfl, hfull, hf0', Qck, hback]
    unfold Qhu
    by_cases hc1 : Qik t (Qdv t (now.set j (gi uses j))) t.length 0 ≥ 0
    ·rw [show decide (Qik t (Qdv t (now.set j (gi uses j))) t.length 0 ≥ 0) = true from decide_eq_true hc1, cond_true, if_neg (by simp; omega)]
     exact hrest now sv (by simp at hn; omega) hd' hml hnd'.2 hr hsvl
    ·rw [show decide (Qik t (Qdv t (now.set j (gi uses j))) t.length 0 ≥ 0) = false from decide_eq_false hc1, cond_false]
     by_cases hc2 : (Qdv t (now.set j (gi uses j))).getD 0 0 > sup
     ·rw [show decide ((Qdv t (now.set j (gi uses j))).getD 0 0 > sup) = true from decide_eq_true hc2, cond_true, if_neg (by simp only [Bool.and_eq_true, decide_eq_true_eq]; omega)]
      exact hrest now sv (by simp at hn; omega) hd' hml hnd'.2 hr hsvl
     ·rw [show decide ((Qdv t (now.set j (gi uses j))).getD 0 0 > sup) = false from decide_eq_false hc2, cond_false, if_pos (by simp only [Bool.and_eq_true, decide_eq_true_eq]; exact ⟨h0, by omega, by omega⟩)]
      exact hrest _ _ (by simp at hn; omega) hd' hml hnd'.2 hr' fun q hq => by
       obtain ⟨q0, q1⟩ := hml q hq
       rw [Qps (by rw [hr.ls]; omega), if_neg (fun e => hnd'.1 (by rw [show (j : Int) = q by omega]; exact hq))]
       exact hsvl q hq
theorem Qpt (n k : Nat) : gb (List.replicate n false) k = false := by
 rw [gb, List.getD_eq_getElem?_getD, List.getElem?_replicate]
 split <;> rfl
theorem Qsy (n k : Nat) : gi (List.replicate n 0) k = 0 := by
 rw [gi, List.getD_eq_getElem?_getD, List.getElem?_replicate]
 split <;> rfl
theorem Ql2 (uses : List Int) (n : Nat) : Rel uses n (List.replicate n 0) (List.replicate n false) :=
 ⟨by simp, by simp, fun k _ => by rw [Qsy, Qpt]; simp, fun k _ h => by rw [Qpt] at h; cases h⟩
theorem Qvs {t : List GNode} (ht : Qem t = true) : (ordF t 101).Nodup ∧ (ordF t 101).length ≤ 1000 := by
 obtain ⟨h1, h2⟩ := Qfp ht
 have hp : (ordF t 101).Nodup := (Qn3 t 101).imp fun {a b} h e => by
  subst e
  rcases h with h | h
  ·omega
  ·omega
 refine ⟨hp, ?_⟩
 have hf : ∀ k, flt t k (ordF t 101) = flt t k (idxF t.length 0) := fun k => by
  rw [Qlj]
  split
  ·rfl
  ·rename_i hq
   symm
   refine Qkg fun x hx e => ?_
   obtain ⟨_, n, h1, h2, h3⟩ := Qn5 ht hx
   unfold keyP at e
   rw [h1] at e
   dsimp only at e
   omega
 have := Stb.len hf
 rw [Qke] at this
 omega
theorem Qpv {t : List GNode} (ht : Qem t = true) : ∀ j, j < t.length → (Qdv t (List.replicate t.length 0)).getD j 0 = 0 := by
 have hu : Qek (List.replicate t.length 0) = true := by
  unfold Qek
  rw [List.all_eq_true]
  intro x hx
  rw [(List.mem_replicate.1 hx).2]
  rfl
 have hl : (List.replicate t.length (0 : Int)).length = t.length := by simp
 have key : ∀ d j, t.length - j ≤ d → j < t.length → (Qdv t (List.replicate t.length 0)).getD j 0 = 0 := by
  intro d
  induction d with
  | zero => intro j h hj; omega
  | succ d ih =>
   intro j h hj
   have hx : t[j]? = some t[j] := List.getElem?_eq_getElem hj
   obtain ⟨f1, _, _⟩ := Qwf ht hu hl hx
   have hc : ∀ q a, j < a → a + q = t.length → chS t (Qdv t (List.replicate t.length 0)) j q a = 0 := by
    intro q
    induction q with
    | zero => intro a _ _; rfl
    | succ q ihq =>
     intro a h1 h2
     rw [chS, ihq (a + 1) (by omega) (by omega), ih a (by omega) (by omega)]
     split
     ·split <;> rfl
     ·rfl
   rw [f1, hc _ _ (by omega) (by omega)]
   have := Qsy t.length j
   unfold gi at this
   rw [this]
   rfl
 exact fun j hj => key t.length j (by omega) hj
theorem Qm3 {t : List GNode} {sup : Int} (ht : Qem t = true) (hs : 0 ≤ sup) : Qhu t sup (List.replicate t.length 0) = true := by
 obtain ⟨h1, h2⟩ := Qfp ht
 unfold Qhu
 have hf := Qpv ht
 have hfull : ∀ d i, i + d = t.length → Qik t (Qdv t (List.replicate t.length 0)) d i = -1 := by
  intro d
  induction d with
  | zero => intro i _; rfl
  | succ d ih =>
   intro i h
   rw [Qik, ih (i + 1) (by omega), if_neg]
   rintro ⟨_, hc⟩
   rw [hf i (by omega)] at hc
   have hx : t[i]? = some t[i] := List.getElem?_eq_getElem (by omega)
   have := (Qkx ht hx).limit
   unfold limAt at hc
   rw [hx] at hc
   dsimp only at hc
   omega
 rw [hfull t.length 0 (by omega), hf 0 (by omega)]
 simp only [Bool.and_eq_true, decide_eq_true_eq]
 omega
def svF (t : List GNode) (uses : List Int) (sup : Int) : List Int × List Bool := srvL (Qhu t sup) uses (ordF t 101) (List.replicate t.length 0) (List.replicate t.length false)
theorem Qvi {t : List GNode} {uses : List Int} {sup : Int} (ht : Qem t = true) (hs : 0 ≤ sup) : Rel uses t.length (svF t uses sup).1 (svF t uses sup).2 ∧ Qhu t sup (svF t uses sup).1 = true := by
 obtain ⟨a, b, _⟩ := Qkv (good := Qhu t sup) (uses := uses) (n := t.length) (l := ordF t 101) (fun i hi => (Ql5 ht).1 hi) (Ql2 uses t.length) (Qm3 ht hs)
 exact ⟨a, b⟩
theorem Qvm {N : Nat} {t : List GNode} {l : List Int} {sup : Int} (hN : 2000 ≤ N) (ht : t.length ≤ 1000) (hl : l.length ≤ 1000) :
  Qf0 N t l sup = some (bif Qem t then (bif Qek l && decide (l.length = t.length) then (bif btw sup 0 100000000000 then ((svF t l sup).2, (Qdv t (svF t l sup).1).getD 0 0, 0) else ([], 0, 2)) else ([], 0, 2)) else ([], 0, 1)) := by
 unfold Qf0
 rw [Qvd ht hl hN]
 cases h1 : Qem t with
 | false => rfl
 | true =>
  cases h2 : (Qek l && decide (l.length = t.length)) with
  | false => rfl
  | true =>
   rw [Bool.and_eq_true, decide_eq_true_eq] at h2
   simp only [cond_true, Option.bind_some, bne_self_eq_false, cond_false, Qj0]
   cases h3 : btw sup 0 100000000000 with
   | false => rfl
   | true =>
    obtain ⟨s0, _⟩ := Qhf.1 h3
    obtain ⟨nd, ol⟩ := Qvs h1
    obtain ⟨q1, q2⟩ := Qfp h1
    have hz := Qpv h1 0 (by omega)
    have hlp := Qqx (N := N) (sup := sup) hN h1 h2.1 h2.2 (fun x => match x with | (y13, y14) => bif decide (t.length ≤ y14.length) then some (y14.take t.length, y13, 0) else none) (ordF t 101) ol N (ordF t 101) 0 (List.replicate t.length 0) (List.replicate t.length false) (by omega) rfl (fun j hj => (Ql5 h1).1 hj) nd (Ql2 l t.length) (fun j _ => Qpt _ _)
    have hsv : srvL (Qhu t sup) l (ordF t 101) (List.replicate t.length 0) (List.replicate t.length false) = svF t l sup := rfl
    rw [hz, show ((0 : Nat) : Int) = 0 from rfl, hsv] at hlp
    obtain ⟨hr, _⟩ := Qvi (uses := l) h1 s0
    simp only [Bool.not_true, cond_false, chk, Qck, Int.toNat_natCast, show decide (0 ≤ (t.length : Int)) = true from decide_eq_true (by omega), show decide (1 * (t.length : Int) ≤ 281474976710656) = true from decide_eq_true (by omega), show decide (8 * (t.length : Int) ≤ 281474976710656) = true from decide_eq_true (by omega), show decide ((t.length : Int) ≤ 9223372036854775807) = true from decide_eq_true (by omega), Bool.and_self, cond_true, Qvp hN h1, Option.bind_some]
    rw [hlp]
    have hln : (svF t l sup).2.length = t.length := hr.ls
    dsimp only
    rw [← hln, List.take_length, decide_eq_true (Nat.le_refl _), cond_true]
end Go.Proofs.Ytgdepcgbjjgnfaa
