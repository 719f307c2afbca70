/-
  Plain laws of the reference's table. No conditions.
-/
import Derived.Test.YtlhakkkjgdbdpaaPBet
namespace Go.Proofs.Ytlhakkkjgdbdpaa
open Go.RowKit
section Row
variable {N : Nat} {j : GJob} {h : Nat} {H : GHour} {tl : List (Nat × Nat)} {R : List (List Int)} {a : Nat}
theorem w64_H {j : GJob} (hj : JobOK j) : w64 ((j.Hours.length : Int) + 1) = ((nH j + 1 : Nat) : Int) := by
 have hH1 := (Qkw hj).2
 rw [Qc0 (by unfold nH at hH1; omega) (by unfold nH at hH1; omega)]; rfl
theorem tin_loop (hj : JobOK j) (hh : j.Hours[h]? = some H) (htl : tl.length = nH j + 1)
  (h1 : tl[h + 1]? = some (a, nL j)) (h2 : R[a]? = some (rw' (nL j) (tb j (h + 1))))
  {l : Nat} (hl : l < nL j) (f : Nat → Int) (K : List (List Int) → Option (List (List Int))) : ∀ (n k : Nat) (x : Int), nL j - k < n → k ≤ nL j → -1000000000000 ≤ x → x ≤ 9000000000000000000 →
  Qc5 N j h tl R l K n k (R ++ [rw' (nL j) (updN f l x)])
   = K (R ++ [rw' (nL j) (updN f l (mx (Qha (folB j) (gnI j) (fun k => tb j (h + 1) k.toNat) H l) (nL j - k) k x))]) := by
 have hL := (Qhz hj).2
 have hL0 := (Qhz hj).1
 have hhlt : h < nH j := by
  rcases Nat.lt_or_ge h (nH j) with h' | h'
  ·exact h'
  ·rw [List.getElem?_eq_none h'] at hh; cases hh
 have hH1 := (Qkw hj).2
 have e0 := w64_H hj
 intro n
 induction n with
 | zero => intro k x h; exact absurd h (Nat.not_lt_zero _)
 | succ n ih =>
  intro k x hn hk hx0 hx1
  rw [Qc5]
  rcases Nat.eq_or_lt_of_le hk with e | hlt
  ·rw [show decide ((k : Int) < (j.Levels.length : Int)) = false from decide_eq_false (by unfold nL at e; omega), cond_false, e, Nat.sub_self, mx]
  ·rw [show decide ((k : Int) < (j.Levels.length : Int)) = true from decide_eq_true (by unfold nL at hlt; omega), cond_true]
   have e1 : w64 ((k : Int) + 1) = ((k + 1 : Nat) : Int) := Qc0 (by omega) (by omega)
   have e2 : w64 ((h : Int) + 1) = ((h + 1 : Nat) : Int) := Qc0 (by omega) (by omega)
   have hs : nL j - k = (nL j - (k + 1)) + 1 := by omega
   rw [Qlw hj hh (by omega) (by omega), hs, mx]
   simp only [Option.bind_some, e0, e1, e2, Qha]
   cases hf : folB j H l k with
   | false =>
    simp only [cond_false]
    exact ih (k + 1) x (by omega) (by omega) hx0 hx1
   | true =>
    have gb := Qwo hj (List.mem_of_getElem? hh) (l : Int) (k : Int)
    have tbb := tb_bd hj (h + 1) k
    have e3 : w64 (gnI j H l k + tb j (h + 1) k) = gnI j H l k + tb j (h + 1) k := Qc0 (by omega) (by omega)
    have c1 : (tl.set h (R.length, j.Levels.length))[h]? = some (R.length, nL j) := by rw [List.getElem?_set_self (by omega)]
    have c2 : (tl.set h (R.length, j.Levels.length))[h + 1]? = some (a, nL j) := by rw [List.getElem?_set_ne (by omega)]; exact h1
    have d1 : decide (0 ≤ (h : Int)) = true := decide_eq_true (by omega)
    have d2 : decide (h < nH j + 1) = true := decide_eq_true (by omega)
    have d3 : decide (0 ≤ ((h + 1 : Nat) : Int)) = true := decide_eq_true (by omega)
    have d4 : decide (h + 1 < nH j + 1) = true := decide_eq_true (by omega)
    have d5 : decide (0 ≤ (l : Int)) = true := decide_eq_true (by omega)
    have d6 : decide (l < nL j) = true := decide_eq_true hl
    have d7 : decide (0 ≤ (k : Int)) = true := decide_eq_true (by omega)
    have d8 : decide (k < nL j) = true := decide_eq_true hlt
    have p0 : 0 < nL j := by omega
    have m1 := fun (f : Nat → Int) => Qjl R f hl
    have m3 := fun X => Qi5 X h2 hlt
    have n1 := fun (f : Nat → Int) => Qmz R f p0
    have n3 := fun X => Qm8 X h2 p0
    have s1 := fun (f : Nat → Int) v => Qji R (L := nL j) f l v
    have emax : (if gnI j H l k + tb j (h + 1) k > x then gnI j H l k + tb j (h + 1) k else x) = max x (gnI j H l k + tb j (h + 1) k) := by
     rw [Int.max_def]; split <;> split <;> omega
    have hbd : max x (gnI j H l k + tb j (h + 1) k) ≤ 9000000000000000000 := by rw [Int.max_def]; split <;> omega
    have hbd0 : -1000000000000 ≤ max x (gnI j H l k + tb j (h + 1) k) := by rw [Int.max_def]; split <;> omega
    simp only [cond_true, chk, Int.toNat_natCast, d1, d2, d3, d4, d5, d6, d7, d8, Bool.and_self, c1, c2, Option.bind_some, m1, m3, n1, n3, s1, Bool.not_false, Qyr, Qrp, Qvi hj hh hf, e3, emax]
    rw [ih (k + 1) _ (by omega) (by omega) hbd0 hbd]
theorem Qys (hj : JobOK j) (hN : 300 ≤ N) (hh : j.Hours[h]? = some H) (htl : tl.length = nH j + 1)
  (h1 : tl[h + 1]? = some (a, nL j)) (h2 : R[a]? = some (rw' (nL j) (tb j (h + 1)))) (K : List (List Int) → Option (List (List Int))) :
  ∀ (n l : Nat) (f : Nat → Int), nL j - l < n → l ≤ nL j →
  Qc6 N j h tl R K n l (R ++ [rw' (nL j) f]) = K (R ++ [rw' (nL j) (fun m => if m < l then f m else tb j h m)]) := by
 have hL := (Qhz hj).2
 have hL0 := (Qhz hj).1
 have hhlt : h < nH j := by
  rcases Nat.lt_or_ge h (nH j) with h' | h'
  ·exact h'
  ·rw [List.getElem?_eq_none h'] at hh; cases hh
 have hH1 := (Qkw hj).2
 have e0 := w64_H hj
 obtain ⟨H', hH', hdr⟩ := Qon hhlt
 have eHH : H' = H := by rw [hH'] at hh; exact Option.some.inj hh
 subst eHH
 intro n
 induction n with
 | zero => intro l f h; exact absurd h (Nat.not_lt_zero _)
 | succ n ih =>
  intro l f hn hl
  rw [Qc6]
  rcases Nat.eq_or_lt_of_le hl with e | hlt
  ·rw [show decide ((l : Int) < (j.Levels.length : Int)) = false from decide_eq_false (by unfold nL at e; omega), cond_false]
   rw [Qpk (f := f) (g := fun m => if m < l then f m else tb j h m) (fun k hk => by rw [if_pos (by omega)])]
  ·rw [show decide ((l : Int) < (j.Levels.length : Int)) = true from decide_eq_true (by unfold nL at hlt; omega), cond_true]
   have e1 : w64 ((l : Int) + 1) = ((l + 1 : Nat) : Int) := Qc0 (by omega) (by omega)
   have c1 : (tl.set h (R.length, j.Levels.length))[h]? = some (R.length, nL j) := by rw [List.getElem?_set_self (by omega)]
   have d1 : decide (0 ≤ (h : Int)) = true := decide_eq_true (by omega)
   have d2 : decide (h < nH j + 1) = true := decide_eq_true (by omega)
   have d5 : decide (0 ≤ (l : Int)) = true := decide_eq_true (by omega)
   have d6 : decide (l < nL j) = true := decide_eq_true hlt
   have p0 : 0 < nL j := by omega
   have m1 := fun (f : Nat → Int) => Qjl R f hlt
   have n1 := fun (f : Nat → Int) => Qmz R f p0
   have s1 := fun (f : Nat → Int) v => Qji R (L := nL j) f l v
   simp only [Qcn, e0, cond_true, chk, Int.toNat_natCast, d1, d2, d5, d6, Bool.and_self, c1, Option.bind_some, m1, n1, s1, Bool.not_false]
   have hin := tin_loop (N := N) (R := R) hj hh htl h1 h2 hlt f (fun y => Qc6 N j h tl R K n (w64 ((l : Int) + 1)) y) N 0 (-1000000000000) (by omega) (by omega) (Int.le_refl _) (by omega)
   refine Eq.trans hin ?_
   rw [e1]
   have etb : mx (Qha (folB j) (gnI j) (fun k => tb j (h + 1) k.toNat) H' l) (nL j - 0) 0 (-1000000000000) = tb j h l := by
    unfold tb
    rw [hdr, tabV, bell, Nat.sub_zero]
    have : Qha (folB j) (gnI j) (fun k => tabV (nL j) (folB j) (gnI j) (List.drop (h + 1) j.Hours) (k.toNat : Int)) H' l = Qha (folB j) (gnI j) (tabV (nL j) (folB j) (gnI j) (List.drop (h + 1) j.Hours)) H' l := by
     funext k
     simp [Qha]
    rw [this]
   rw [etb, ih (l + 1) _ (by omega) (by omega)]
   congr 3
   refine Qpk fun k hk => ?_
   unfold updN
   by_cases hm : k = l
   ·subst hm; simp
   ·simp only [hm, if_false]
    by_cases h' : k < l
    ·rw [if_pos h', if_pos (by omega)]
    ·rw [if_neg h', if_neg (by omega)]
end Row
theorem tab_loop {N : Nat} {j : GJob} (hj : JobOK j) (hN : 300 ≤ N) (K : List (Nat × Nat) × List (List Int) → Option (List (List Int))) : ∀ (n c : Nat) (tl : List (Nat × Nat)), c < n → c ≤ nH j → PairsAt j c tl →
  ∃ tl', PairsAt j 0 tl' ∧ Qdq N j K n ((c : Int) - 1) tl (Qhi j (tb j) (nH j + 1 - c)) = K (tl', Qhi j (tb j) (nH j + 1)) := by
 have hH1 := (Qkw hj).2
 have hL := (Qhz hj).2
 intro n
 induction n with
 | zero => intro c _ h; exact absurd h (Nat.not_lt_zero _)
 | succ n ih =>
  intro c tl hn hc htl
  rw [Qdq]
  cases c with
  | zero =>
   refine ⟨tl, htl, ?_⟩
   rw [show decide (((0 : Nat) : Int) - 1 ≥ 0) = false from rfl, cond_false, Nat.sub_zero]
  | succ c =>
   have e0 : ((c + 1 : Nat) : Int) - 1 = (c : Int) := by omega
   have e1 := w64_H hj
   have e2 : w64 ((c : Int) - 1) = (c : Int) - 1 := Qc0 (by omega) (by omega)
   have hcn : c ≤ nH j := by omega
   obtain ⟨H, hH, -⟩ := Qon (j := j) (h := c) (by omega)
   have d1 : decide (0 ≤ (c : Int)) = true := decide_eq_true (by omega)
   have d2 : decide (c < nH j + 1) = true := decide_eq_true (by omega)
   have c1 : tl[c]? = some (tl[c]'(by have := htl.1; omega)) := List.getElem?_eq_getElem _
   rw [e0, show decide ((c : Int) ≥ 0) = true from decide_eq_true (by omega), cond_true, e1, e2]
   simp only [Qcn]
   rw [chk1 hj]
   simp only [chk, Int.toNat_natCast, d1, d2, Bool.and_self, cond_true, c1, Option.bind_some, Qyu]
   have hrow := fun K' => Qys (N := N) (R := Qhi j (tb j) (nH j + 1 - (c + 1))) hj hN hH htl.1 (htl.2 _ (Nat.le_refl _) hc) (by
    rw [Qfi _ (by omega)]
    congr 3
    omega) K' N 0 (fun _ => 0) (by omega) (Nat.zero_le _)
   simp only [Nat.not_lt_zero, if_false] at hrow
   have e3 : nH j + 1 - (c + 1) = nH j - c := by omega
   have e4 : nH j + 1 - c = nH j - c + 1 := by omega
   have e5 : nH j - (nH j - c) = c := by omega
   have e6 := Qk3 j (tb j) (nH j - c)
   rw [e5] at e6
   obtain ⟨tl', h1, h2⟩ := ih c _ (by omega) (by omega) (htl.set hcn)
   refine ⟨tl', h1, ?_⟩
   rw [← h2, e4, ← e6]
   refine (hrow _).trans ?_
   rw [Qrv, e3]
theorem table_eq {N : Nat} {j : GJob} (hj : JobOK j) (hN : 300 ≤ N) : Qhv N j = some (Qir j) := by
 have hH0 := (Qkw hj).1
 have hH1 := (Qkw hj).2
 have hL := (Qhz hj).2
 unfold Qhv
 rw [chk1 hj, w64_H hj]
 have e0 : w64 ((j.Hours.length : Int) - 1) = ((nH j : Nat) : Int) - 1 := Qc0 (by unfold nH at hH0; omega) (by unfold nH at hH1; omega)
 have hr : PairsAt j (nH j + 1) (List.replicate (nH j + 1) (0, 0)) := ⟨List.length_replicate, fun i h1 h2 => by omega⟩
 have hs := hr.set (Nat.le_refl _)
 rw [Nat.sub_self] at hs
 rw [show decide (0 ≤ ((nH j + 1 : Nat) : Int)) = true from decide_eq_true (by omega), show decide (24 * ((nH j + 1 : Nat) : Int) ≤ 281474976710656) = true from decide_eq_true (by omega), show decide (((nH j + 1 : Nat) : Int) ≤ 9223372036854775807) = true from decide_eq_true (by omega),
  show decide (0 ≤ (j.Hours.length : Int)) = true from decide_eq_true (by omega), Int.toNat_natCast, Int.toNat_natCast, Int.toNat_natCast, show decide (j.Hours.length < nH j + 1) = true from decide_eq_true (Nat.lt_succ_self _), e0]
 have hg : (List.replicate (nH j + 1) ((0, 0) : Nat × Nat))[j.Hours.length]? = some (0, 0) := by simp
 rw [hg]
 simp only [Qcn, chk, Bool.and_self, cond_true, Option.bind_some]
 have e1 : tb j (nH j) = fun _ => 0 := by funext l; unfold tb; rw [List.drop_of_length_le (Nat.le_refl _)]; rfl
 have e2 : ([] : List (List Int)) ++ [List.replicate j.Levels.length 0] = Qhi j (tb j) (nH j + 1 - nH j) := by
  rw [show nH j + 1 - nH j = 0 + 1 from by omega, ← Qk3, Nat.sub_zero, e1, Qyu]
  rfl
 rw [e2]
 obtain ⟨tl, h1, h2⟩ := tab_loop (N := N) hj hN (fun x => bif (x.1.all fun y => decide (y.2 ≤ (x.2.getD y.1 []).length)) then bif (decide ((nH j + 1) ≤ ((x.1).map fun y => (x.2.getD y.1 []).take y.2).length)) then some (((x.1).map fun y => (x.2.getD y.1 []).take y.2).take (nH j + 1)) else none else none) N (nH j) _ (by omega) (Nat.le_refl _) hs
 refine Eq.trans h2 ?_
 rw [h1.all]
 have c1 : ((rw' (nH j + 1) (fun i => (nH j - i, nL j))).all fun x => decide (x.2 ≤ ((Qhi j (tb j) (nH j + 1)).getD x.1 []).length)) = true := by
  rw [List.all_eq_true]
  intro x hx
  simp only [rw', List.mem_map, List.mem_range] at hx
  obtain ⟨i, hi, rfl⟩ := hx
  rw [List.getD_eq_getElem?_getD, Qfi _ (by omega)]
  simp [Qgx]
 have c2 : ((rw' (nH j + 1) (fun i => (nH j - i, nL j))).map fun x => ((Qhi j (tb j) (nH j + 1)).getD x.1 []).take x.2) = Qir j := by
  unfold Qir
  conv => lhs; rw [rw', List.map_map]
  unfold rw'
  apply List.map_congr_left
  intro i hi
  have := List.mem_range.1 hi
  simp only [Function.comp_apply]
  rw [List.getD_eq_getElem?_getD, Qfi _ (by omega), show nH j - (nH j - i) = i from by omega]
  simp only [Option.getD_some]
  rw [List.take_of_length_le (by rw [Qgx]; exact Nat.le_refl _)]
  rfl
 have c3 : (Qir j).length = nH j + 1 := Qgx _ _
 dsimp only
 rw [c1, c2, c3, List.take_of_length_le (by rw [c3]; exact Nat.le_refl _)]
 simp
theorem Qwk (N : Nat) (l : List Int) (K : Unit → Option Bool) (hl : l.length ≤ 1000) : ∀ (n i : Nat), l.length - i < n → i ≤ l.length → Qdu N l l K n i = K () := by
 intro n
 induction n with
 | zero => intro i h; exact absurd h (Nat.not_lt_zero _)
 | succ n ih =>
  intro i hn hi
  rw [Qdu]
  rcases Nat.eq_or_lt_of_le hi with e | hlt
  ·rw [show decide ((i : Int) < (l.length : Int)) = false from decide_eq_false (by omega), cond_false]
  ·have e1 : w64 ((i : Int) + 1) = ((i + 1 : Nat) : Int) := Qc0 (by omega) (by omega)
   rw [show decide ((i : Int) < (l.length : Int)) = true from decide_eq_true (by omega), cond_true, Qgo (List.getElem?_eq_getElem hlt), e1]
   simp only [Option.bind_some, bne_self_eq_false, cond_false]
   exact ih (i + 1) (by omega) (by omega)
theorem Qvf {N : Nat} {l : List Int} (hl : l.length ≤ 200) (hN : 300 ≤ N) : Qgn N l l = some true := by
 unfold Qgn
 rw [bne_self_eq_false, cond_false]
 simp only [Qcn]
 exact Qwk N l _ (by omega) N 0 (by omega) (Nat.zero_le _)
theorem Qrs {N : Nat} {T : List (List Int)} (K : Unit → Option Bool) (hl : T.length ≤ 1000) (hr : ∀ r ∈ T, r.length ≤ 200) (hN : 300 ≤ N) : ∀ (n i : Nat), T.length - i < n → i ≤ T.length → Qdd N T T K n i = K () := by
 intro n
 induction n with
 | zero => intro i h; exact absurd h (Nat.not_lt_zero _)
 | succ n ih =>
  intro i hn hi
  rw [Qdd]
  rcases Nat.eq_or_lt_of_le hi with e | hlt
  ·rw [show decide ((i : Int) < (T.length : Int)) = false from decide_eq_false (by omega), cond_false]
  ·have e1 : w64 ((i : Int) + 1) = ((i + 1 : Nat) : Int) := Qc0 (by omega) (by omega)
   rw [show decide ((i : Int) < (T.length : Int)) = true from decide_eq_true (by omega), cond_true, Qgo (List.getElem?_eq_getElem hlt), e1]
   simp only [Option.bind_some]
   rw [Qvf (hr _ (List.getElem_mem hlt)) hN]
   simp only [Option.bind_some, Bool.not_true, cond_false]
   exact ih (i + 1) (by omega) (by omega)
theorem Qwd {N : Nat} {T : List (List Int)} (hl : T.length ≤ 200) (hr : ∀ r ∈ T, r.length ≤ 200) (hN : 300 ≤ N) : Qg8 N T T = some true := by
 unfold Qg8
 rw [bne_self_eq_false, cond_false]
 simp only [Qcn]
 exact Qrs _ (by omega) hr hN N 0 (by omega) (Nat.zero_le _)
end Go.Proofs.Ytlhakkkjgdbdpaa
