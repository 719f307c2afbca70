/-
  Plain: the served ones can be served together; another one with a use, together with the served ones ahead of it, could not. No conditions.
-/
import Derived.Test.YtgdepcgbjjgnfaaX16
import Derived.Test.YtgdepcgbjjgnfaaPSrv
namespace Go.Proofs.Ytgdepcgbjjgnfaa
open Go.RowKit
def ahdB (t : List GNode) (a b : Int) : Bool := decide (keyP t a < keyP t b) || decide (keyP t a = keyP t b) && decide (a < b)
theorem Qou {t : List GNode} {a b : Int} : ahdB t a b = true ↔ Ahd t a b := by simp [ahdB, Ahd]
theorem Qqu {t : List GNode} {uses : List Int} {sup : Int} (ht : Qem t = true) (hs : 0 ≤ sup) {i : Nat} (hi : i < t.length) (h0 : gi uses i ≠ 0) (hno : gb (svF t uses sup).2 i = false) :
  ∃ now, now.length = t.length ∧ Qhu t sup (now.set i (gi uses i)) = false ∧ ∀ k, k < t.length → gi now k = if gb (svF t uses sup).2 k = true ∧ ahdB t k i = true then gi uses k else 0 := by
 have hm : (i : Int) ∈ ordF t 101 := (Ql5 ht).2 (by omega)
 obtain ⟨A, B, hAB⟩ := List.append_of_mem hm
 have hp := Qn3 t 101
 rw [hAB, List.pairwise_append, List.pairwise_cons] at hp
 obtain ⟨pA, ⟨pB1, pB2⟩, pAB⟩ := hp
 have hnd := (Qvs ht).1
 rw [hAB] at hnd
 have hmem : ∀ x, x ∈ A ++ (i : Int) :: B → 0 ≤ x ∧ x < t.length := fun x hx => (Ql5 ht).1 (hAB ▸ hx)
 generalize hn0 : List.replicate t.length (0 : Int) = now0
 generalize hs0 : List.replicate t.length false = sv0
 have hr0 : Rel uses t.length now0 sv0 := hn0 ▸ hs0 ▸ Ql2 uses t.length
 have hg0 : Qhu t sup now0 = true := hn0 ▸ Qm3 ht hs
 have hsv : svF t uses sup = srvL (Qhu t sup) uses (A ++ (i : Int) :: B) now0 sv0 := by
  unfold svF
  rw [hAB, hn0, hs0]
 obtain ⟨rA, gA, kA⟩ := Qkv (good := Qhu t sup) (l := A) (fun x hx => hmem x (by simp [hx])) hr0 hg0
 generalize hA : srvL (Qhu t sup) uses A now0 sv0 = sA at rA gA kA
 have hrest : svF t uses sup = srvL (Qhu t sup) uses ((i : Int) :: B) sA.1 sA.2 := by rw [hsv, Qqv, hA]
 rw [srvL, Int.toNat_natCast] at hrest
 have hiA : (i : Int) ∉ A := fun h => by
  rw [List.nodup_append] at hnd
  exact hnd.2.2 _ h _ (by simp) rfl
 have hiB : (i : Int) ∉ B := by
  rw [List.nodup_append, List.nodup_cons] at hnd
  exact hnd.2.1.1
 by_cases hgd : Qhu t sup (sA.1.set i (gi uses i)) = true
 ·-- then it would be served
  rw [if_pos ⟨h0, hgd⟩] at hrest
  obtain ⟨_, _, kB⟩ := Qkv (good := Qhu t sup) (l := B) (fun x hx => hmem x (by simp [hx])) (rA.set hi h0) hgd
  have := kB i hiB
  rw [← hrest, hno, Qps (by rw [rA.ls]; exact hi), if_pos rfl] at this
  cases this
 ·rw [if_neg (fun h => hgd h.2)] at hrest
  obtain ⟨_, _, kB⟩ := Qkv (good := Qhu t sup) (l := B) (fun x hx => hmem x (by simp [hx])) rA gA
  refine ⟨sA.1, rA.ln, by simpa using hgd, fun k hk => ?_⟩
  rw [rA.eq k hk]
  have hkm : (k : Int) ∈ A ++ (i : Int) :: B := hAB ▸ (Ql5 ht).2 (by omega)
  rw [List.mem_append, List.mem_cons] at hkm
  have hirr : ∀ a b : Int, Ahd t a b → Ahd t b a → False := fun a b h1 h2 => by
   unfold Ahd at h1 h2
   omega
  rcases hkm with h | h | h
  ·have hB : (k : Int) ∉ B := fun hb => by
    rw [List.nodup_append] at hnd
    exact hnd.2.2 _ h _ (by simp [hb]) rfl
   have e := kB k hB
   rw [← hrest] at e
   have ha : Ahd t k i := pAB _ h _ (by simp)
   rw [e]
   by_cases hc : gb sA.2 k = true
   ·rw [if_pos hc, if_pos ⟨hc, Qou.2 ha⟩]
   ·rw [if_neg hc, if_neg (fun x => hc x.1)]
  ·have e := kA k (h ▸ hiA)
   rw [e, ← hs0, Qpt, if_neg (by simp), if_neg (fun x => by
    have h' := Qou.1 x.2
    rw [h] at h'
    exact hirr _ _ h' h')]
  ·have hkA : (k : Int) ∉ A := fun ha => by
    rw [List.nodup_append] at hnd
    exact hnd.2.2 _ ha _ (by simp [h]) rfl
   have e := kA k hkA
   have ha : Ahd t i k := pB1 _ h
   rw [e, ← hs0, Qpt, if_neg (by simp), if_neg (fun x => hirr _ _ (Qou.1 x.2) ha)]
theorem Qx9 (N : Nat) {t : List GNode} {uses : List Int} (a : List Bool) (p : Int × Int) (K : List Int → Option Bool) (hl : t.length ≤ 1000) (hu : uses.length = t.length) (hr : a.length = t.length) : ∀ (n d i : Nat) (now : List Int), d < n → i + d = t.length → now.length = t.length → (∀ k, k < i → gi now k = if gb a k = true then gi uses k else 0) → (∀ k, i ≤ k → gi now k = 0) →
  ∃ now', Qb5 N t uses (a, p) K n i now = K now' ∧ now'.length = t.length ∧ ∀ k, k < t.length → gi now' k = if gb a k = true then gi uses k else 0 := by
 intro n
 induction n with
 | zero => intro d i now h; omega
 | succ n ih =>
  intro d i now h hd hn h1 h2
  rw [Qb5]
  cases d with
  | zero =>
   rw [show decide ((i : Int) < (t.length : Int)) = false from decide_eq_false (by omega), cond_false]
   exact ⟨now, rfl, hn, fun k hk => h1 k (by omega)⟩
  | succ d =>
   have e1 : w64 ((i : Int) + 1) = ((i + 1 : Nat) : Int) := Qb2 (by omega) (by omega)
   have hs := Qod (l := a) (i := i) (by omega)
   have hx := Qeo (l := uses) (i := i) (by omega)
   have hnx := Qeo (l := now) (i := i) (by omega)
   simp only [show decide ((i : Int) < (t.length : Int)) = true from decide_eq_true (by omega), cond_true, Qd4 hs, Option.bind_some, e1]
   cases hb : gb a i with
   | true =>
    simp only [cond_true, Qd4 hx, Option.bind_some, chk, Int.toNat_natCast, show decide (0 ≤ (i : Int)) = true from decide_eq_true (by omega), show decide (i < t.length) = true from decide_eq_true (by omega), Bool.and_self, hnx]
    exact ih d (i + 1) _ (by omega) (by omega) (by simpa using hn) (fun k hk => by
     rw [Qm4 (by omega)]
     by_cases e : k = i
     ·subst e; rw [if_pos rfl, if_pos hb]
     ·rw [if_neg e]; exact h1 k (by omega)) (fun k hk => by rw [Qm4 (by omega), if_neg (by omega)]; exact h2 k (by omega))
   | false =>
    simp only [cond_false]
    exact ih d (i + 1) now (by omega) (by omega) hn (fun k hk => by
     rcases Nat.eq_or_lt_of_le (Nat.le_of_lt_succ hk) with rfl | hlt
     ·rw [hb, if_neg (by simp)]; exact h2 k (Nat.le_refl _)
     ·exact h1 k hlt) (fun k hk => h2 k (by omega))
theorem key_at {t : List GNode} {i : Nat} {x : GNode} (h : t[i]? = some x) : keyP t (i : Int) = x.Rank := by
 unfold keyP
 rw [Int.toNat_natCast, h]
theorem Qvl (N : Nat) {t : List GNode} {uses : List Int} (a : List Bool) (p : Int × Int) (i0 : Nat) (K : List Int → Option Bool) (hl : t.length ≤ 1000) (hu : uses.length = t.length) (hr : a.length = t.length) (hi0 : i0 < t.length) : ∀ (n d i : Nat) (now : List Int), d < n → i + d = t.length → now.length = t.length → (∀ k : Nat, k < i → gi now k = if gb a k = true ∧ ahdB t k i0 = true then gi uses k else 0) → (∀ k, i ≤ k → gi now k = 0) →
  ∃ now', Qa4 N t uses (a, p) i0 K n i now = K now' ∧ now'.length = t.length ∧ ∀ k : Nat, k < t.length → gi now' k = if gb a k = true ∧ ahdB t k i0 = true then gi uses k else 0 := by
 have g0 : t[i0]? = some t[i0] := List.getElem?_eq_getElem hi0
 generalize t[i0] = x0 at g0
 have k0 := key_at g0
 intro n
 induction n with
 | zero => intro d i now h; omega
 | succ n ih =>
  intro d i now h hd hn h1 h2
  rw [Qa4]
  cases d with
  | zero =>
   rw [show decide ((i : Int) < (t.length : Int)) = false from decide_eq_false (by omega), cond_false]
   exact ⟨now, rfl, hn, fun k hk => h1 k (by omega)⟩
  | succ d =>
   have e1 : w64 ((i : Int) + 1) = ((i + 1 : Nat) : Int) := Qb2 (by omega) (by omega)
   have hs := Qod (l := a) (i := i) (by omega)
   have hx := Qeo (l := uses) (i := i) (by omega)
   have hnx := Qeo (l := now) (i := i) (by omega)
   have g1 : t[i]? = some (t[i]'(by omega)) := List.getElem?_eq_getElem _
   generalize t[i]'(by omega) = x1 at g1
   have k1 := key_at g1
   have skip : ¬ (gb a i = true ∧ ahdB t i i0 = true) → ∃ now', Qa4 N t uses (a, p) i0 K n ((i + 1 : Nat) : Int) now = K now' ∧ now'.length = t.length ∧ ∀ k : Nat, k < t.length → gi now' k = if gb a k = true ∧ ahdB t k i0 = true then gi uses k else 0 := fun hno =>
    ih d (i + 1) now (by omega) (by omega) hn (fun k hk => by
     rcases Nat.eq_or_lt_of_le (Nat.le_of_lt_succ hk) with rfl | hlt
     ·rw [if_neg hno]; exact h2 k (Nat.le_refl _)
     ·exact h1 k hlt) (fun k hk => h2 k (by omega))
   have put : gb a i = true ∧ ahdB t i i0 = true → ∃ now', Qa4 N t uses (a, p) i0 K n ((i + 1 : Nat) : Int) (now.set i (gi uses i)) = K now' ∧ now'.length = t.length ∧ ∀ k : Nat, k < t.length → gi now' k = if gb a k = true ∧ ahdB t k i0 = true then gi uses k else 0 := fun hyes =>
    ih d (i + 1) _ (by omega) (by omega) (by simpa using hn) (fun k hk => by
     rw [Qm4 (by omega)]
     by_cases e : k = i
     ·subst e; rw [if_pos rfl, if_pos hyes]
     ·rw [if_neg e]; exact h1 k (by omega)) (fun k hk => by rw [Qm4 (by omega), if_neg (by omega)]; exact h2 k (by omega))
   simp only [show decide ((i : Int) < (t.length : Int)) = true from decide_eq_true (by omega), cond_true, Qd4 hs, Qd4 g0, Qd4 g1, Qd4 hx, Option.bind_some, e1, chk, Int.toNat_natCast, show decide (0 ≤ (i : Int)) = true from decide_eq_true (by omega), show decide (i < t.length) = true from decide_eq_true (by omega), Bool.and_self, hnx]
   rw [Qou] at skip put
   unfold Ahd at skip put
   rw [k0, k1] at skip put
   cases hb : gb a i with
   | false =>
    rw [hb] at skip
    exact skip (by simp)
   | true =>
    rw [hb] at skip put
    simp only [cond_true]
    by_cases hlt : x1.Rank < x0.Rank
    ·rw [show decide (x1.Rank < x0.Rank) = true from decide_eq_true hlt, cond_true]
     exact put ⟨rfl, Or.inl hlt⟩
    ·rw [show decide (x1.Rank < x0.Rank) = false from decide_eq_false hlt, cond_false]
     by_cases heq : x1.Rank = x0.Rank
     ·rw [show (x1.Rank == x0.Rank) = true from beq_iff_eq.2 heq, cond_true]
      by_cases hii : (i : Int) < (i0 : Int)
      ·rw [show decide ((i : Int) < (i0 : Int)) = true from decide_eq_true hii, cond_true]
       exact put ⟨rfl, Or.inr ⟨heq, hii⟩⟩
      ·rw [show decide ((i : Int) < (i0 : Int)) = false from decide_eq_false hii, cond_false]
       exact skip (by omega)
     ·rw [show (x1.Rank == x0.Rank) = false from beq_eq_false_iff_ne.2 heq, cond_false]
      exact skip (by omega)
theorem Qp4 (N : Nat) (t : List Int) (k : Unit → Option Int) (hl : t.length ≤ 1000) : ∀ (n i : Nat), (t.drop i).length < n → i ≤ t.length →
  Qbi N t.length t k n i = bif Qek (t.drop i) then k () else some ((i : Int) + ((t.drop i).findIdx fun x => !btw x 0 1000000000 : Nat)) := by
 intro n
 induction n with
 | zero => intro i h; exact absurd h (Nat.not_lt_zero _)
 | succ n ih =>
  intro i h hi
  rw [Qbi]
  cases hd : t.drop i with
  | nil =>
   have := Qib hd
   simp [show ¬ ((i : Int) < t.length) from by omega, Qek]
  | cons b l =>
   obtain ⟨hg, hd', hlt⟩ := Qhe hd
   have e1 : w64 ((i : Int) + 1) = ((i + 1 : Nat) : Int) := Qb2 (by omega) (by omega)
   have ih' := ih (i + 1) (by rw [hd']; rw [hd] at h; simp at h; omega) hlt
   rw [hd'] at ih'
   simp only [show decide ((i : Int) < t.length) = true from by simpa using hlt, cond_true, chk, Int.toNat_natCast, show decide (0 ≤ (i : Int)) = true from decide_eq_true (by omega), show decide (i < t.length) = true from decide_eq_true hlt, Bool.and_self, hg, Option.bind_some, Qd2, Qve, e1, ih', Qek, List.all_cons, List.findIdx_cons]
   cases hb : btw b 0 1000000000 with
   | false => simp
   | true =>
    cases hu : (l.all fun x => btw x 0 1000000000) with
    | true => simp
    | false => simp; omega
theorem Qx0 {N : Nat} {t : List GNode} {l : List Int} (ht : t.length ≤ 1000) (hN : 2000 ≤ N) (hl : l.length = t.length) : Qgd N t t.length l = some (bif Qem t then (bif Qek l then 0 else 2) else 1) := by
 unfold Qgd Qfq Qcz Qde
 simp only [Qo8 ht hN, Option.bind_some, Qck]
 cases Qem t with
 | false => rfl
 | true =>
  have := Qp4 N l (fun _ => some (-1)) (by omega) N 0 (by simp; omega) (Nat.zero_le _)
  rw [show ((0 : Nat) : Int) = 0 from rfl, List.drop_zero, hl] at this
  rw [this]
  cases Qek l with
  | true => simp
  | false => simp
theorem Qxe {N : Nat} {t : List GNode} {l : List Int} (hN : 2000 ≤ N) (ht : Qem t = true) (hu : Qek l = true) (hl : l.length = t.length) :
  Qfd N t t.length l = some (if Qik t (Qdv t l) t.length 0 ≥ 0 then ([], Qik t (Qdv t l) t.length 0, 11) else (Qdv t l, 0, 0)) := by
 have h2 := Qfp ht
 unfold Qfd
 rw [Qx0 (by omega) hN hl, ht, hu]
 simp only [cond_true, Option.bind_some, bne_self_eq_false, cond_false, Qpu hN ht hu hl, Qq9 hN ((Qgo t l).trans hl) (show t.length ≤ 1000 by omega)]
 by_cases h3 : Qik t (Qdv t l) t.length 0 ≥ 0 <;> simp [h3]
theorem Qq3 {N : Nat} {t : List GNode} {uses : List Int} {sup : Int} (hN : 2000 ≤ N) (ht : Qem t = true) (hu : Qek uses = true) (hl : uses.length = t.length) (hs : 0 ≤ sup) (p : Int × Int) (K : Unit → Option Bool) : ∀ (n d i : Nat), d < n → i + d = t.length →
  Qcs N t uses sup ((svF t uses sup).2, p) K n i = K () := by
 obtain ⟨h1, h2⟩ := Qfp ht
 obtain ⟨hr, _⟩ := Qvi (uses := uses) ht hs
 intro n
 induction n with
 | zero => intro d i h; omega
 | succ n ih =>
  intro d i h hd
  rw [Qcs]
  cases d with
  | zero => rw [show decide ((i : Int) < (t.length : Int)) = false from decide_eq_false (by omega), cond_false]
  | succ d =>
   have hi : i < t.length := by omega
   have e1 : w64 ((i : Int) + 1) = ((i + 1 : Nat) : Int) := Qb2 (by omega) (by omega)
   have hsv := Qod (l := (svF t uses sup).2) (i := i) (by rw [hr.ls]; omega)
   have hx := Qeo (l := uses) (i := i) (by omega)
   have hrest := ih d (i + 1) (by omega) (by omega)
   simp only [show decide ((i : Int) < (t.length : Int)) = true from decide_eq_true (by omega), cond_true, Qd4 hsv, Qd4 hx, Option.bind_some, e1, Qck, hrest]
   cases hb : gb (svF t uses sup).2 i with
   | true =>
    have := hr.nz i hi hb
    rw [cond_true, show (gi uses i == 0) = false from beq_eq_false_iff_ne.2 this, cond_false]
   | false =>
    rw [cond_false]
    by_cases h0 : gi uses i = 0
    ·rw [show (gi uses i == 0) = true from beq_iff_eq.2 h0, cond_true]
    ·rw [show (gi uses i == 0) = false from beq_eq_false_iff_ne.2 h0, cond_false]
     obtain ⟨now, w1, w2, w3⟩ := Qqu ht hs hi h0 hb
     simp only [chk, Int.toNat_natCast, show decide (0 ≤ (t.length : Int)) = true from decide_eq_true (by omega), show decide (8 * (t.length : Int) ≤ 281474976710656) = true from decide_eq_true (by omega), show decide ((t.length : Int) ≤ 9223372036854775807) = true from decide_eq_true (by omega), Bool.and_self, cond_true]
     obtain ⟨q, q1, q2, q3⟩ := Qvl N (svF t uses sup).2 p i (fun y29 => (getI uses i).bind fun x31 => bif decide (0 ≤ (i : Int)) && decide (i < t.length) then (y29[i]?).bind fun _ => (Qfb N t).bind fun x39 => (Qfd N x39 t.length (y29.set i x31)).bind fun x41 => bif x41.2.2 == 0 then bif (x41.1.length : Int) != (t.length : Int) then some false else (getI x41.1 0).bind fun x44 => bif decide (x44 ≤ sup) then some false else K () else K () else none) (by omega) hl (by rw [hr.ls]) hi N t.length 0 (List.replicate t.length 0) (by omega) (by omega) (by simp) (fun k hk => by omega) (fun k _ => Qsy _ _)
     have hq : q = now := by
      refine List.ext_getElem? fun k => ?_
      rcases Nat.lt_or_ge k t.length with hk | hk
      ·rw [Qeo (by omega), Qeo (by omega), q3 k hk, w3 k hk]
      ·rw [List.getElem?_eq_none (by omega), List.getElem?_eq_none (by omega)]
     subst hq
     rw [show ((0 : Nat) : Int) = 0 from rfl] at q1
     simp only [Qd4 hx, Option.bind_some, Qs7 (show t.length ≤ 1000 by omega) hN] at q1 ⊢
     rw [q1]
     have hqx := Qeo (l := q) (i := i) (by omega)
     have hu' : Qek (q.set i (gi uses i)) = true := by
      unfold Qek
      rw [List.all_eq_true]
      intro x hx
      obtain ⟨k, hk⟩ := List.getElem?_of_mem hx
      have hkn : k < t.length := by have := (List.getElem?_eq_some_iff.1 hk).1; simp at this; omega
      have hk' := gi_of hk
      rw [Qm4 (by omega)] at hk'
      rw [Qhf, ← hk']
      split
      ·exact Qsg hu (Qeo (by omega))
      ·rw [w3 k hkn]
       split
       ·exact Qsg hu (Qeo (by omega))
       ·omega
     have hl' : (q.set i (gi uses i)).length = t.length := by simp [w1]
     rw [show decide (0 ≤ (i : Int)) = true from decide_eq_true (by omega), show decide (i < t.length) = true from decide_eq_true hi, hqx, Qxe hN ht hu' hl']
     unfold Qhu at w2
     simp only [Bool.and_self, cond_true, Option.bind_some]
     by_cases hf : Qik t (Qdv t (q.set i (gi uses i))) t.length 0 ≥ 0
     ·rw [if_pos hf]
      rfl
     ·rw [if_neg hf]
      simp only [Bool.and_eq_false_iff, decide_eq_false_iff_not] at w2
      have h0' : getI (Qdv t (q.set i (gi uses i))) 0 = some ((Qdv t (q.set i (gi uses i))).getD 0 0) := Qd4 (i := 0) (Qeo (l := Qdv t (q.set i (gi uses i))) (i := 0) (by rw [Qgo, hl']; omega))
      simp only [beq_self_eq_true, cond_true, Qgo, hl', bne_self_eq_false, cond_false, h0', Option.bind_some]
      rw [show decide ((Qdv t (q.set i (gi uses i))).getD 0 0 ≤ sup) = false from decide_eq_false (by omega), cond_false]
theorem Qx7 {N : Nat} (hN : 2000 ≤ N) (t : List GNode) (l : List Int) (sup : Int) : Qev N t l sup = some true := by
 unfold Qev
 simp only [few_eq, Option.bind_some, Qxx, Qck]
 by_cases h1 : (t.length : Int) ≤ 35
 ·by_cases h2 : (l.length : Int) ≤ 35
  ·have ht : t.length ≤ 1000 := by omega
   have hl : l.length ≤ 1000 := by omega
   simp only [h1, h2, decide_true, Bool.and_self, Bool.not_true, cond_false, Qs7 ht hN, Qyx hl, Option.bind_some, Qvm hN ht hl, Qvc ht hN, Qxy (t := t) hl hN, in_eq]
   cases h3 : Qem t with
   | false => rfl
   | true =>
    cases h4 : (Qek l && decide (l.length = t.length)) with
    | false => rfl
    | true =>
     cases h5 : btw sup 0 100000000000 with
     | false => rfl
     | true =>
      rw [Bool.and_eq_true, decide_eq_true_eq] at h4
      obtain ⟨s0, _⟩ := Qhf.1 h5
      obtain ⟨q1, q2⟩ := Qfp h3
      obtain ⟨hr, hg⟩ := Qvi (uses := l) h3 s0
      unfold Qhu at hg
      simp only [Bool.and_eq_true, decide_eq_true_eq] at hg
      simp only [cond_true, Bool.not_true, cond_false, bne_self_eq_false, hr.ls, chk, Int.toNat_natCast, show decide (0 ≤ (t.length : Int)) = true from decide_eq_true (by omega), show decide (8 * (t.length : Int) ≤ 281474976710656) = true from decide_eq_true (by omega), show decide ((t.length : Int) ≤ 9223372036854775807) = true from decide_eq_true (by omega), Bool.and_self]
      have hloop := Qq3 (N := N) hN h3 h4.1 h4.2 s0 ((Qdv t (svF t l sup).1).getD 0 0, 0) (fun _ => some true) N t.length 0 (by omega) (by omega)
      rw [show ((0 : Nat) : Int) = 0 from rfl] at hloop
      obtain ⟨now, n1, n2, n3⟩ := Qx9 N (svF t l sup).2 ((Qdv t (svF t l sup).1).getD 0 0, (0 : Int)) (fun y10 => (Qfe N t.length y10).bind fun x15 => (Qfj N t x15).bind fun x17 => bif x17.2.2 != 0 then some false else bif (x17.1.length : Int) != (t.length : Int) then some false else (getI x17.1 0).bind fun x102 => bif x102 != (Qdv t (svF t l sup).1).getD 0 0 then some false else bif decide ((Qdv t (svF t l sup).1).getD 0 0 > sup) then some false else some true) ht h4.2 hr.ls N t.length 0 (List.replicate t.length 0) (by omega) (by omega) (by simp) (fun k hk => by omega) (fun k _ => Qsy _ _)
      have hq : now = (svF t l sup).1 := by
       refine List.ext_getElem? fun k => ?_
       rcases Nat.lt_or_ge k t.length with hk | hk
       ·rw [Qeo (by omega), Qeo (by rw [hr.ln]; omega), n3 k hk, hr.eq k hk]
       ·rw [List.getElem?_eq_none (by omega), List.getElem?_eq_none (by rw [hr.ln]; omega)]
      rw [show ((0 : Nat) : Int) = 0 from rfl, hq] at n1
      simp only [hloop]
      rw [n1]
      have hlist : Qfe N t.length (svF t l sup).1 = some (svF t l sup).1 := by
       unfold Qfe
       simp only [chk, hr.ln, Nat.le_refl, decide_true, cond_true]
       rw [← hr.ln, List.take_length, show decide ((([] : List Int).length + (svF t l sup).1.length) * 8 ≤ 140737488355328) = true from decide_eq_true (by simp [hr.ln]; omega), cond_true, List.nil_append]
      have h0' : getI (Qdv t (svF t l sup).1) 0 = some ((Qdv t (svF t l sup).1).getD 0 0) := Qd4 (i := 0) (Qeo (l := Qdv t (svF t l sup).1) (i := 0) (by rw [Qgo, hr.ln]; omega))
      rw [hlist, Option.bind_some, Qxd hN ht (by rw [hr.ln]; omega), h3, hr.uses h4.1 h4.2, hr.ln]
      simp only [decide_true, Bool.and_self, cond_true, Option.bind_some]
      rw [if_neg (by omega)]
      simp only [bne_self_eq_false, cond_false, Qgo, hr.ln, h0', Option.bind_some]
      rw [show decide ((Qdv t (svF t l sup).1).getD 0 0 > sup) = false from decide_eq_false (by omega)]
      rfl
  ·simp [h2]
 ·simp [h1]
theorem Qt1 (t : List GNode) (l : List Int) (sup : Int) (_ : Qpr t) (_ : Qwb l) (_ : Ql7 sup) : Qev 2000 t l sup = some true := Qx7 (Nat.le_refl _) t l sup
end Go.Proofs.Ytgdepcgbjjgnfaa
