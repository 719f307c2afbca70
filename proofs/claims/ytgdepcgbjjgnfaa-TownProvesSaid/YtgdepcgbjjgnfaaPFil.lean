/-
  Plain: one hour's lack is got, each time from the cheapest hour that can send it: the walk of the program's search, take and fill. No conditions.
-/
import Derived.Test.YtgdepcgbjjgnfaaPGry
namespace Go.Proofs.Ytgdepcgbjjgnfaa
open Go.RowKit
def hrs (h : List GHour) (i : Nat) : List GStair := match h[i]? with | some x => x.Stairs | none => []
def useF (h : List GHour) (i : Nat) : Int := match h[i]? with | some x => x.Use | none => 0
def gt (l : List Int) (i : Nat) : Int := l.getD i 0
theorem gt_of {l : List Int} {i : Nat} {x : Int} (h : l[i]? = some x) : gt l i = x := by rw [gt, List.getD_eq_getElem?_getD, h, Option.getD_some]
theorem Qe0 {l : List Int} {i : Nat} (h : i < l.length) : l[i]? = some (gt l i) := by
 rw [gt, List.getD_eq_getElem?_getD, List.getElem?_eq_getElem h, Option.getD_some]
theorem Qmz {l : List Int} {m : Nat} {v : Int} (h : m < l.length) : gt (l.set m v) = setF (gt l) m v := by
 funext k
 show (l.set m v).getD k 0 = if k = m then v else l.getD k 0
 rw [List.getD_eq_getElem?_getD, List.getElem?_set, List.getD_eq_getElem?_getD]
 by_cases e : k = m
 ·subst e
  rw [if_pos rfl, if_pos h, if_pos rfl, Option.getD_some]
 ·rw [if_neg (Ne.symm e), if_neg e]
theorem Qkd {h : List GHour} {i : Nat} {x : GHour} (e : h[i]? = some x) : hrs h i = x.Stairs ∧ useF h i = x.Use := by
 unfold hrs useF
 rw [e]
 exact ⟨rfl, rfl⟩
theorem Qth (S : Int) (x use : Nat → Int) (m : Nat) (n : Int) : ∀ i, lev S (setF x m (x m + n)) use i = lev S x use i + if m ≤ i then n else 0
 | 0 => by
  unfold lev setF
  by_cases e : 0 = m
  ·subst e; simp; omega
  ·rw [if_neg e, if_neg (by omega)]; omega
 | i + 1 => by
  rw [lev, Qth S x use m n i, lev]
  unfold setF
  by_cases e : i + 1 = m
  ·subst e; rw [if_pos rfl, if_neg (by omega), if_pos (by omega)]; omega
  ·rw [if_neg e]
   by_cases e2 : m ≤ i
   ·rw [if_pos e2, if_pos (by omega)]; omega
   ·rw [if_neg e2, if_neg (by omega)]; omega
structure PosO (l : List GStair) (us lf x : Int) (u : Nat) : Prop where
 us : us = u
 le : u ≤ l.length
 at_ : ∀ s, l[u]? = some s → 0 < lf ∧ lf ≤ s.Amount ∧ x = preS l u + s.Amount - lf
 end_ : u = l.length → x = Qdm l
structure WorkOK (hs : List GHour) (T S : Int) (t : Nat) (g : Int) (us lf : Nat → Int) (pl lv : List Int) : Prop where
 npl : pl.length = hs.length
 nlv : lv.length = hs.length
 pos : ∀ i, i < hs.length → ∃ u, PosO (hrs hs i) (us i) (lf i) (gt pl i) u
 later : ∀ i, t < i → gt pl i = 0
 lvl : ∀ i, t ≤ i → gt lv i = 0
 tank : ∀ i, i < t → 0 ≤ gt lv i ∧ gt lv i ≤ T ∧ gt lv i = lev S (gt pl) (useF hs) i
 gap : lev S (gt pl) (useF hs) t = g
 inv : GrI (hrs hs) (gt pl) (gt lv) T t
theorem Qye {l : List GStair} (h : Qds l) {us lf x : Int} {u : Nat} (hp : PosO l us lf x u) : preS l u ≤ x ∧ 0 ≤ x ∧ x ≤ Qdm l := by
 have h0 := Qg8 h u
 have h1 := Qqo h u
 rcases Nat.lt_or_ge u l.length with hlt | hge
 ·obtain ⟨a, b, c⟩ := hp.at_ _ (List.getElem?_eq_getElem hlt)
  have h2 := Qqo h (u + 1)
  rw [Qh8 (List.getElem?_eq_getElem hlt)] at h2
  omega
 ·have e : u = l.length := by have := hp.le; omega
  have h3 := hp.end_ e
  omega
def addL (lv : List Int) (a b : Nat) (n : Int) : List Int := lv.mapIdx fun k x => if a ≤ k ∧ k < b then x + n else x
theorem addL_len (lv : List Int) (a b : Nat) (n : Int) : (addL lv a b n).length = lv.length := by simp [addL]
theorem gt_addL {lv : List Int} {a b : Nat} {n : Int} (hb : b ≤ lv.length) : gt (addL lv a b n) = addR (gt lv) a b n := by
 funext k
 unfold addR addL gt
 rw [List.getD_eq_getElem?_getD, List.getElem?_mapIdx, List.getD_eq_getElem?_getD]
 cases h : lv[k]? with
 | none =>
  have := List.getElem?_eq_none_iff.1 h
  rw [if_neg (by omega)]
  rfl
 | some x => simp
theorem addL_nil {lv : List Int} {a : Nat} {n : Int} : addL lv a a n = lv := by
 refine List.ext_getElem? fun k => ?_
 unfold addL
 rw [List.getElem?_mapIdx]
 cases lv[k]? with
 | none => rfl
 | some x => simp; omega
theorem addL_set {lv : List Int} {a b : Nat} {n x : Int} (hx : lv[a]? = some x) (hab : a < b) : addL (lv.set a (x + n)) (a + 1) b n = addL lv a b n := by
 have ha := (List.getElem?_eq_some_iff.1 hx).1
 refine List.ext_getElem? fun k => ?_
 unfold addL
 rw [List.getElem?_mapIdx, List.getElem?_mapIdx, List.getElem?_set]
 by_cases e : a = k
 ·subst e
  rw [if_pos rfl, if_pos ha, hx]
  simp only [Option.map_some, Option.some.injEq]
  rw [if_neg (by omega), if_pos (by omega)]
 ·rw [if_neg e]
  cases lv[k]? with
  | none => rfl
  | some y =>
   simp only [Option.map_some, Option.some.injEq]
   by_cases h : a ≤ k ∧ k < b
   ·rw [if_pos h, if_pos (by omega)]
   ·rw [if_neg h, if_neg (by omega)]
theorem Qx4 (N : Nat) (p0 : Int) (t : Nat) (n x6 : Int) (len : Nat) (p10 : List Int) (f1 f2 : Nat → Int) (hlen : len ≤ 24) (htl : t ≤ len) : ∀ (k i : Nat) (lv : List Int), t - i < k → i ≤ t → lv.length = len → (∀ j, i ≤ j → j < t → -10000000000 ≤ gt lv j + n ∧ gt lv j + n ≤ 10000000000) →
  Qb3 N p0 t n x6 len p10 f1 f2 k i lv = some (f1, f2, p10.set p0.toNat (w64 (x6 + n)), addL lv i t n) := by
 intro k
 induction k with
 | zero => intro i _ h; omega
 | succ k ih =>
  intro i lv h hi hl hb
  rw [Qb3]
  rcases Nat.eq_or_lt_of_le hi with rfl | hlt
  ·rw [show decide ((i : Int) < (i : Int)) = false from decide_eq_false (by omega), cond_false, addL_nil]
  ·have hx := Qe0 (l := lv) (i := i) (by omega)
   have hbi := hb i (Nat.le_refl _) hlt
   have e1 : w64 ((i : Int) + 1) = ((i + 1 : Nat) : Int) := Qco (by omega) (by omega)
   have e2 : w64 (gt lv i + n) = gt lv i + n := Qco (by omega) (by omega)
   simp only [show decide ((i : Int) < (t : Int)) = true from decide_eq_true (by omega), cond_true, chk, Int.toNat_natCast, show decide (0 ≤ (i : Int)) = true from decide_eq_true (by omega), show decide (i < len) = true from decide_eq_true (by omega), Bool.and_self, hx, Option.bind_some, e1, e2]
   rw [ih (i + 1) _ (by omega) (by omega) (by simpa using hl) (fun j h1 h2 => by
    rw [Qmz (by omega)]
    unfold setF
    rw [if_neg (by omega)]
    exact hb j (by omega) h2), addL_set hx hlt]
theorem Qff (f : Nat → Int) (k : Nat) (x : Int) : setF f k x k = x := by simp [setF]
theorem Qgx {f : Nat → Int} {k j : Nat} {x : Int} (h : j ≠ k) : setF f k x j = f j := by simp [setF, h]
theorem take_eq {N : Nat} {hs : List GHour} {T S g n : Int} {t m u : Nat} {us lf : Nat → Int} {pl lv : List Int} {s : GStair} (hN : 2000 ≤ N) (h24 : hs.length ≤ 24) (ht : t < hs.length) (hH : ∀ i, i < hs.length → Qds (hrs hs i)) (hw : ∀ i, i < hs.length → Qdm (hrs hs i) ≤ 6000000000) (hl6 : ∀ i, i < hs.length → (hrs hs i).length ≤ 6) (hT : T ≤ 1000000000) (h : WorkOK hs T S t g us lf pl lv) (hmt : m ≤ t)
  (hpos : PosO (hrs hs m) (us m) (lf m) (gt pl m) u) (hu : (hrs hs m)[u]? = some s) (hn0 : 0 < n) (hn : n ≤ lf m) (hroom : ∀ k, m ≤ k → k < t → n ≤ T - gt lv k) (hmin : ∀ i, i ≤ t → Qms (gt lv) T i t → ∀ q, FrL (hrs hs i) (gt pl i) q → s.Price ≤ q) :
  ∃ us' lf' pl' lv', Qep N m t n T S hs hs.length hs.length us lf pl lv = some (us', lf', pl', lv') ∧ WorkOK hs T S t (g + n) us' lf' pl' lv' ∧ (∀ i, us i ≤ us' i) ∧ (n = lf m → us' m = us m + 1) ∧ gt lv' = addR (gt lv) m t n := by
 have hm : m < hs.length := by omega
 have hs' := hH m hm
 obtain ⟨hl0, hl1, hx⟩ := hpos.at_ s hu
 have hsm := hs'.1 s (List.mem_of_getElem? hu)
 have hpl := Qye hs' hpos
 have hwm := hw m hm
 have hsu := Qh8 hu
 have hpu := Qg8 hs' u
 have hpw := Qqo hs' (u + 1)
 have hul := (List.getElem?_eq_some_iff.1 hu).1
 have h6 := hl6 m hm
 have hgm : hs[m]? = some hs[m] := List.getElem?_eq_getElem hm
 generalize hs[m] = hr at hgm
 obtain ⟨hr1, _⟩ := Qkd hgm
 rw [hr1] at hu hul hsu hpw hs' hpos h6 hx hpu
 have hplm := Qe0 (l := pl) (i := m) (by rw [h.npl]; omega)
 have ex : w64 (gt pl m + n) = gt pl m + n := Qco (by omega) (by omega)
 have el : w64 (lf m - n) = lf m - n := Qco (by omega) (by omega)
 have eu : w64 (us m + 1) = ((u + 1 : Nat) : Int) := by rw [hpos.us, Qco (by omega) (by omega)]; omega
 have hlv := h.nlv
 have hgl : gt (addL lv m t n) = addR (gt lv) m t n := gt_addL (by omega)
 have hgp : gt (pl.set m (gt pl m + n)) = setF (gt pl) m (gt pl m + n) := Qmz (by rw [h.npl]; omega)
 have base : ∀ us' lf' : Nat → Int, (∀ i, i ≠ m → us' i = us i ∧ lf' i = lf i) → (∃ u', PosO (hrs hs m) (us' m) (lf' m) (gt pl m + n) u') → WorkOK hs T S t (g + n) us' lf' (pl.set m (gt pl m + n)) (addL lv m t n) := fun us' lf' hoth hnew => by
  refine ⟨by rw [List.length_set, h.npl], by rw [addL_len, h.nlv], fun i hi => ?_, fun i hi => ?_, fun i hi => ?_, fun i hi => ?_, ?_, ?_⟩
  ·rw [hgp]
   by_cases e : i = m
   ·subst e
    rw [Qff]
    exact hnew
   ·obtain ⟨e1, e2⟩ := hoth i e
    rw [Qgx e, e1, e2]
    exact h.pos i hi
  ·rw [hgp, Qgx (by omega)]; exact h.later i hi
  ·rw [hgl]; unfold addR; rw [if_neg (by omega)]; exact h.lvl i hi
  ·obtain ⟨t1, t2, t3⟩ := h.tank i hi
   rw [hgl, hgp, Qth]
   unfold addR
   by_cases e : m ≤ i
   ·have := hroom i e hi
    rw [if_pos ⟨e, hi⟩, if_pos e]
    omega
   ·rw [if_neg (by omega), if_neg e]
    omega
  ·rw [hgp, Qth, if_pos hmt, h.gap]
  ·rw [hgp, hgl]
   exact inv_take (fun i hi => hH i (by omega)) h.inv hmt (by rw [hr1]; exact hu) (by rw [hr1]; omega) (by rw [hr1]; omega) hn0 (fun k h1 h2 => by have := hroom k h1 h2; omega) hmin
 have loop : ∀ f1 f2, Qb3 N m t n (gt pl m) hs.length pl f1 f2 N m lv = some (f1, f2, pl.set m (gt pl m + n), addL lv m t n) := fun f1 f2 => by
  rw [Qx4 N m t n (gt pl m) hs.length pl f1 f2 h24 (by omega) N m lv (by omega) hmt h.nlv (fun j h1 h2 => by
   have := hroom j h1 h2
   have := (h.tank j h2).1
   omega), ex, Int.toNat_natCast]
 unfold Qep
 simp only [chk, Int.toNat_natCast, show decide (0 ≤ (m : Int)) = true from decide_eq_true (by omega), show decide (m < hs.length) = true from decide_eq_true hm, show decide (m < 24) = true from decide_eq_true (by omega), Bool.and_self, cond_true, hplm, Option.bind_some, Qbr, el, eu, Qff, loop, Qcs hgm]
 by_cases hz : lf m - n = 0
 ·simp only [hz, beq_self_eq_true, cond_true]
  by_cases hlast : u + 1 < hr.Stairs.length
  ·have hg2 : hr.Stairs[u + 1]? = some hr.Stairs[u + 1] := List.getElem?_eq_getElem hlast
   simp only [show decide (((u + 1 : Nat) : Int) < (hr.Stairs.length : Int)) = true from decide_eq_true (by omega), cond_true, Qcs hg2, Option.bind_some]
   refine ⟨_, _, _, _, rfl, base _ _ (fun i hi => ⟨Qgx hi, by rw [Qgx hi, Qgx hi]⟩) ⟨u + 1, ?_⟩, fun i => ?_, fun _ => ?_, hgl⟩
   ·rw [Qff, Qff, hr1]
    have hA := hs'.1 _ (List.mem_of_getElem? hg2)
    refine ⟨rfl, by omega, fun s' hs2 => ?_, fun e => by omega⟩
    rw [hg2] at hs2
    cases hs2
    omega
   ·unfold setF
    split
    ·rename_i e; subst e; rw [hpos.us]; omega
    ·exact Int.le_refl _
   ·rw [Qff, hpos.us]; omega
  ·simp only [show decide (((u + 1 : Nat) : Int) < (hr.Stairs.length : Int)) = false from decide_eq_false (by omega), cond_false]
   refine ⟨_, _, _, _, rfl, base _ _ (fun i hi => ⟨Qgx hi, by rw [Qgx hi]⟩) ⟨u + 1, ?_⟩, fun i => ?_, fun _ => ?_, hgl⟩
   ·rw [Qff, hr1]
    refine ⟨rfl, by omega, fun s' hs2 => ?_, fun e => ?_⟩
    ·have := (List.getElem?_eq_some_iff.1 hs2).1
     omega
    ·rw [← Qu1, ← e]
     omega
   ·unfold setF
    split
    ·rename_i e; subst e; rw [hpos.us]; omega
    ·exact Int.le_refl _
   ·rw [Qff, hpos.us]; omega
 ·simp only [show ((lf m - n) == 0) = false from by simpa using hz, cond_false]
  refine ⟨_, _, _, _, rfl, base _ _ (fun i hi => ⟨rfl, Qgx hi⟩) ⟨u, ?_⟩, fun i => Int.le_refl _, fun e => by omega, hgl⟩
  rw [Qff, hr1]
  refine ⟨hpos.us, hpos.le, fun s' hs2 => ?_, fun e => ?_⟩
  ·rw [hu] at hs2
   cases hs2
   omega
  ·have := hul
   omega
end Go.Proofs.Ytgdepcgbjjgnfaa
