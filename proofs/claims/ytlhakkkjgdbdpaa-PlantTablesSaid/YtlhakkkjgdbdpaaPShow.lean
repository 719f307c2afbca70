/-
  Plain laws: what the reference's Shows asks, and its table once more. No conditions.
-/
import Derived.Test.YtlhakkkjgdbdpaaPTabR
import Derived.Test.YtlhakkkjgdbdpaaX18
namespace Go.Proofs.Ytlhakkkjgdbdpaa
open Go.RowKit
section Row
variable {N : Nat} {j : GJob} {h : Nat} {H : GHour} {tl : List (Nat × Nat)} {R : List (List Int)} {a : Nat}
theorem tin1_loop (hj : JobOK j) (hh : j.Hours[h]? = some H) (htl : tl.length = nH j + 1)
  (h1 : tl[h + 1]? = some (a, nL j)) (h2 : R[a]? = some (rw' (nL j) (tb j (h + 1))))
  {l : Nat} (hl : l < nL j) (f : Nat → Int) (K : List (List Int) → Option (List (Nat × Nat) × List (List Int))) : ∀ (n k : Nat) (x : Int), nL j - k < n → k ≤ nL j → -1000000000000 ≤ x → x ≤ 9000000000000000000 →
  Qcy N j h tl R l K n k (R ++ [rw' (nL j) (updN f l x)])
   = K (R ++ [rw' (nL j) (updN f l (mx (Qki (folB j) (gnI j) (fun k => tb j (h + 1) k.toNat) H l) (nL j - k) k x))]) := by
 have hL := (Qj5 hj).2
 have hL0 := (Qj5 hj).1
 have hhlt : h < nH j := by
  rcases Nat.lt_or_ge h (nH j) with h' | h'
  ·exact h'
  ·rw [List.getElem?_eq_none h'] at hh; cases hh
 have hH1 := (Qkx hj).2
 have e0 := Qx4 hj
 intro n
 induction n with
 | zero => intro k x h; exact absurd h (Nat.not_lt_zero _)
 | succ n ih =>
  intro k x hn hk hx0 hx1
  rw [Qcy]
  rcases Nat.eq_or_lt_of_le hk with e | hlt
  ·rw [show decide ((k : Int) < (j.Levels.length : Int)) = false from decide_eq_false (by unfold nL at e; omega), cond_false, e, Nat.sub_self, mx]
  ·rw [show decide ((k : Int) < (j.Levels.length : Int)) = true from decide_eq_true (by unfold nL at hlt; omega), cond_true]
   have e1 : w64 ((k : Int) + 1) = ((k + 1 : Nat) : Int) := Qc3 (by omega) (by omega)
   have e2 : w64 ((h : Int) + 1) = ((h + 1 : Nat) : Int) := Qc3 (by omega) (by omega)
   have hs : nL j - k = (nL j - (k + 1)) + 1 := by omega
   rw [Qk2 hj hh (by omega) (by omega), hs, mx]
   simp only [Option.bind_some, e0, e1, e2, Qki]
   cases hf : folB j H l k with
   | false =>
    simp only [cond_false]
    exact ih (k + 1) x (by omega) (by omega) hx0 hx1
   | true =>
    have gb := Qyi hj (List.mem_of_getElem? hh) (l : Int) (k : Int)
    have tbb := tb_bd hj (h + 1) k
    have e3 : w64 (gnI j H l k + tb j (h + 1) k) = gnI j H l k + tb j (h + 1) k := Qc3 (by omega) (by omega)
    have c1 : (tl.set h (R.length, j.Levels.length))[h]? = some (R.length, nL j) := by rw [List.getElem?_set_self (by omega)]
    have c2 : (tl.set h (R.length, j.Levels.length))[h + 1]? = some (a, nL j) := by rw [List.getElem?_set_ne (by omega)]; exact h1
    have d1 : decide (0 ≤ (h : Int)) = true := decide_eq_true (by omega)
    have d2 : decide (h < nH j + 1) = true := decide_eq_true (by omega)
    have d3 : decide (0 ≤ ((h + 1 : Nat) : Int)) = true := decide_eq_true (by omega)
    have d4 : decide (h + 1 < nH j + 1) = true := decide_eq_true (by omega)
    have d5 : decide (0 ≤ (l : Int)) = true := decide_eq_true (by omega)
    have d6 : decide (l < nL j) = true := decide_eq_true hl
    have d7 : decide (0 ≤ (k : Int)) = true := decide_eq_true (by omega)
    have d8 : decide (k < nL j) = true := decide_eq_true hlt
    have p0 : 0 < nL j := by omega
    have m1 := fun (f : Nat → Int) => Qt1 R f hl
    have m3 := fun X => Qw9 X h2 hlt
    have n1 := fun (f : Nat → Int) => ne_last R f p0
    have n3 := fun X => ne_old X h2 p0
    have s1 := fun (f : Nat → Int) v => Qtl R (L := nL j) f l v
    have emax : (if gnI j H l k + tb j (h + 1) k > x then gnI j H l k + tb j (h + 1) k else x) = max x (gnI j H l k + tb j (h + 1) k) := by
     rw [Int.max_def]; split <;> split <;> omega
    have hbd : max x (gnI j H l k + tb j (h + 1) k) ≤ 9000000000000000000 := by rw [Int.max_def]; split <;> omega
    have hbd0 : -1000000000000 ≤ max x (gnI j H l k + tb j (h + 1) k) := by rw [Int.max_def]; split <;> omega
    simp only [cond_true, chk, Int.toNat_natCast, d1, d2, d3, d4, d5, d6, d7, d8, Bool.and_self, c1, c2, Option.bind_some, m1, m3, n1, n3, s1, Bool.not_false, updN_at, updN_updN, Qr8 hj hh hf, e3, emax]
    rw [ih (k + 1) _ (by omega) (by omega) hbd0 hbd]
theorem Qx6 (hj : JobOK j) (hN : 300 ≤ N) (hh : j.Hours[h]? = some H) (htl : tl.length = nH j + 1)
  (h1 : tl[h + 1]? = some (a, nL j)) (h2 : R[a]? = some (rw' (nL j) (tb j (h + 1)))) (K : List (List Int) → Option (List (Nat × Nat) × List (List Int))) :
  ∀ (n l : Nat) (f : Nat → Int), nL j - l < n → l ≤ nL j →
  Qcz N j h tl R K n l (R ++ [rw' (nL j) f]) = K (R ++ [rw' (nL j) (fun m => if m < l then f m else tb j h m)]) := by
 have hL := (Qj5 hj).2
 have hL0 := (Qj5 hj).1
 have hhlt : h < nH j := by
  rcases Nat.lt_or_ge h (nH j) with h' | h'
  ·exact h'
  ·rw [List.getElem?_eq_none h'] at hh; cases hh
 have hH1 := (Qkx hj).2
 have e0 := Qx4 hj
 obtain ⟨H', hH', hdr⟩ := drop_at hhlt
 have eHH : H' = H := by rw [hH'] at hh; exact Option.some.inj hh
 subst eHH
 intro n
 induction n with
 | zero => intro l f h; exact absurd h (Nat.not_lt_zero _)
 | succ n ih =>
  intro l f hn hl
  rw [Qcz]
  rcases Nat.eq_or_lt_of_le hl with e | hlt
  ·rw [show decide ((l : Int) < (j.Levels.length : Int)) = false from decide_eq_false (by unfold nL at e; omega), cond_false]
   rw [rw_ext (f := f) (g := fun m => if m < l then f m else tb j h m) (fun k hk => by rw [if_pos (by omega)])]
  ·rw [show decide ((l : Int) < (j.Levels.length : Int)) = true from decide_eq_true (by unfold nL at hlt; omega), cond_true]
   have e1 : w64 ((l : Int) + 1) = ((l + 1 : Nat) : Int) := Qc3 (by omega) (by omega)
   have c1 : (tl.set h (R.length, j.Levels.length))[h]? = some (R.length, nL j) := by rw [List.getElem?_set_self (by omega)]
   have d1 : decide (0 ≤ (h : Int)) = true := decide_eq_true (by omega)
   have d2 : decide (h < nH j + 1) = true := decide_eq_true (by omega)
   have d5 : decide (0 ≤ (l : Int)) = true := decide_eq_true (by omega)
   have d6 : decide (l < nL j) = true := decide_eq_true hlt
   have p0 : 0 < nL j := by omega
   have m1 := fun (f : Nat → Int) => Qt1 R f hlt
   have n1 := fun (f : Nat → Int) => ne_last R f p0
   have s1 := fun (f : Nat → Int) v => Qtl R (L := nL j) f l v
   simp only [Qb0, e0, cond_true, chk, Int.toNat_natCast, d1, d2, d5, d6, Bool.and_self, c1, Option.bind_some, m1, n1, s1, Bool.not_false]
   have hin := tin1_loop (N := N) (R := R) hj hh htl h1 h2 hlt f (fun y => Qcz N j h tl R K n (w64 ((l : Int) + 1)) y) N 0 (-1000000000000) (by omega) (by omega) (Int.le_refl _) (by omega)
   refine Eq.trans hin ?_
   rw [e1]
   have etb : mx (Qki (folB j) (gnI j) (fun k => tb j (h + 1) k.toNat) H' l) (nL j - 0) 0 (-1000000000000) = tb j h l := by
    unfold tb
    rw [hdr, tabV, bell, Nat.sub_zero]
    have : Qki (folB j) (gnI j) (fun k => tabV (nL j) (folB j) (gnI j) (List.drop (h + 1) j.Hours) (k.toNat : Int)) H' l = Qki (folB j) (gnI j) (tabV (nL j) (folB j) (gnI j) (List.drop (h + 1) j.Hours)) H' l := by
     funext k
     simp [Qki]
    rw [this]
   rw [etb, ih (l + 1) _ (by omega) (by omega)]
   congr 3
   refine rw_ext fun k hk => ?_
   unfold updN
   by_cases hm : k = l
   ·subst hm; simp
   ·simp only [hm, if_false]
    by_cases h' : k < l
    ·rw [if_pos h', if_pos (by omega)]
    ·rw [if_neg h', if_neg (by omega)]
end Row
theorem tab1_loop {N : Nat} {j : GJob} (hj : JobOK j) (hN : 300 ≤ N) (K : List (Nat × Nat) × List (List Int) → Option (List (Nat × Nat) × List (List Int))) : ∀ (n c : Nat) (tl : List (Nat × Nat)), c < n → c ≤ nH j → PairsAt j c tl →
  ∃ tl', PairsAt j 0 tl' ∧ Qde N j K n ((c : Int) - 1) tl (Qnc j (tb j) (nH j + 1 - c)) = K (tl', Qnc j (tb j) (nH j + 1)) := by
 have hH1 := (Qkx hj).2
 have hL := (Qj5 hj).2
 intro n
 induction n with
 | zero => intro c _ h; exact absurd h (Nat.not_lt_zero _)
 | succ n ih =>
  intro c tl hn hc htl
  rw [Qde]
  cases c with
  | zero =>
   refine ⟨tl, htl, ?_⟩
   rw [show decide (((0 : Nat) : Int) - 1 ≥ 0) = false from rfl, cond_false, Nat.sub_zero]
  | succ c =>
   have e0 : ((c + 1 : Nat) : Int) - 1 = (c : Int) := by omega
   have e1 := Qx4 hj
   have e2 : w64 ((c : Int) - 1) = (c : Int) - 1 := Qc3 (by omega) (by omega)
   have hcn : c ≤ nH j := by omega
   obtain ⟨H, hH, -⟩ := drop_at (j := j) (h := c) (by omega)
   have d1 : decide (0 ≤ (c : Int)) = true := decide_eq_true (by omega)
   have d2 : decide (c < nH j + 1) = true := decide_eq_true (by omega)
   have c1 : tl[c]? = some (tl[c]'(by have := htl.1; omega)) := List.getElem?_eq_getElem _
   rw [e0, show decide ((c : Int) ≥ 0) = true from decide_eq_true (by omega), cond_true, e1, e2]
   simp only [Qb0]
   rw [chk1 hj]
   simp only [chk, Int.toNat_natCast, d1, d2, Bool.and_self, cond_true, c1, Option.bind_some, rw_rep]
   have hrow := fun K' => Qx6 (N := N) (R := Qnc j (tb j) (nH j + 1 - (c + 1))) hj hN hH htl.1 (htl.2 _ (Nat.le_refl _) hc) (by
    rw [Qpk _ (by omega)]
    congr 3
    omega) K' N 0 (fun _ => 0) (by omega) (Nat.zero_le _)
   simp only [Nat.not_lt_zero, if_false] at hrow
   have e3 : nH j + 1 - (c + 1) = nH j - c := by omega
   have e4 : nH j + 1 - c = nH j - c + 1 := by omega
   have e5 : nH j - (nH j - c) = c := by omega
   have e6 := Qq0 j (tb j) (nH j - c)
   rw [e5] at e6
   obtain ⟨tl', h1, h2⟩ := ih c _ (by omega) (by omega) (htl.set hcn)
   refine ⟨tl', h1, ?_⟩
   rw [← h2, e4, ← e6]
   refine (hrow _).trans ?_
   rw [rowsD_len, e3]
theorem table1_eq {N : Nat} {j : GJob} (hj : JobOK j) (hN : 300 ≤ N) : Qg3 N j = some (rw' (nH j + 1) (fun i => (nH j - i, nL j)), Qnc j (tb j) (nH j + 1)) := by
 have hH0 := (Qkx hj).1
 have hH1 := (Qkx hj).2
 have hL := (Qj5 hj).2
 unfold Qg3
 rw [chk1 hj, Qx4 hj]
 have e0 : w64 ((j.Hours.length : Int) - 1) = ((nH j : Nat) : Int) - 1 := Qc3 (by unfold nH at hH0; omega) (by unfold nH at hH1; omega)
 have hr : PairsAt j (nH j + 1) (List.replicate (nH j + 1) (0, 0)) := ⟨List.length_replicate, fun i h1 h2 => by omega⟩
 have hs := hr.set (Nat.le_refl _)
 rw [Nat.sub_self] at hs
 rw [show decide (0 ≤ ((nH j + 1 : Nat) : Int)) = true from decide_eq_true (by omega), show decide (24 * ((nH j + 1 : Nat) : Int) ≤ 281474976710656) = true from decide_eq_true (by omega), show decide (((nH j + 1 : Nat) : Int) ≤ 9223372036854775807) = true from decide_eq_true (by omega),
  show decide (0 ≤ (j.Hours.length : Int)) = true from decide_eq_true (by omega), Int.toNat_natCast, Int.toNat_natCast, Int.toNat_natCast, show decide (j.Hours.length < nH j + 1) = true from decide_eq_true (Nat.lt_succ_self _), e0]
 have hg : (List.replicate (nH j + 1) ((0, 0) : Nat × Nat))[j.Hours.length]? = some (0, 0) := by simp
 rw [hg]
 simp only [Qb0, chk, Bool.and_self, cond_true, Option.bind_some]
 have e1 : tb j (nH j) = fun _ => 0 := by funext l; unfold tb; rw [List.drop_of_length_le (Nat.le_refl _)]; rfl
 have e2 : ([] : List (List Int)) ++ [List.replicate j.Levels.length 0] = Qnc j (tb j) (nH j + 1 - nH j) := by
  rw [show nH j + 1 - nH j = 0 + 1 from by omega, ← Qq0, Nat.sub_zero, e1, rw_rep]
  rfl
 rw [e2]
 obtain ⟨tl, h1, h2⟩ := tab1_loop (N := N) hj hN (fun x => some (x.1, x.2)) N (nH j) _ (by omega) (Nat.le_refl _) hs
 refine Eq.trans h2 ?_
 rw [h1.all]
theorem s5_loop {N : Nat} {j : GJob} {T : List (List Int)} (hj : JobOK j) (hT : T.length = nH j + 1) {h : Nat} (hh : h ≤ nH j) (r : List Int) (hl : r.length ≤ 1000) (K : Unit → Option Bool) : ∀ (n i : Nat), (r.drop i).length < n →
  Qdh N T h K r n i = bif (r.drop i).all rngB && (!(decide (h = nH j)) || (r.drop i).all fun x => !decide (x < 0)) then K () else some false := by
 have hH := Qkx hj
 intro n
 induction n with
 | zero => intro i h; exact absurd h (Nat.not_lt_zero _)
 | succ n ih =>
  intro i hi0
  rw [Qdh]
  cases hd : r.drop i with
  | nil =>
   have := Qf6 hd
   rw [show decide ((i : Int) < (r.length : Int)) = false from decide_eq_false (by omega)]
   simp
  | cons x l =>
   obtain ⟨hi, hd', hlt⟩ := Qen hd
   have e1 : w64 ((i : Int) + 1) = ((i + 1 : Nat) : Int) := Qc3 (by omega) (by omega)
   have e2 : w64 ((T.length : Int) - 1) = (nH j : Int) := by rw [Qc3 (by omega) (by omega)]; omega
   have ih' := ih (i + 1) (by rw [hd']; rw [hd] at hi0; simp at hi0; omega)
   rw [hd'] at ih'
   simp only [show decide ((i : Int) < (r.length : Int)) = true from decide_eq_true (by omega), cond_true, Qdt hi, Option.bind_some, e1, e2, in_eq, List.all_cons, ih']
   have e3 : ((h : Int) == (nH j : Int)) = decide (h = nH j) := by
    by_cases e : h = nH j
    ·simp [e]
    ·have : ¬ (h : Int) = (nH j : Int) := by omega
     rw [decide_eq_false e]
     simpa using this
   rw [e3]
   show (bif !rngB x then _ else _) = _
   cases rngB x <;> cases decide (h = nH j) <;> cases decide (x < 0) <;> cases l.all rngB <;> simp
theorem s4_loop {N : Nat} {j : GJob} (hj : JobOK j) (T : List (List Int)) (hT : T.length = nH j + 1) (hN : 300 ≤ N) (K : Unit → Option Bool) : ∀ (n h : Nat), (T.drop h).length < n →
  Qd7 N j K T n h = bif Qkb j h (T.drop h) then K () else some false := by
 have hL := Qj5 hj
 have hH := Qkx hj
 intro n
 induction n with
 | zero => intro h hh; exact absurd hh (Nat.not_lt_zero _)
 | succ n ih =>
  intro h hh
  rw [Qd7]
  cases hd : T.drop h with
  | nil =>
   have := Qf6 hd
   rw [show decide ((h : Int) < (T.length : Int)) = false from decide_eq_false (by omega)]
   rfl
  | cons r l =>
   obtain ⟨hi, hd', hlt⟩ := Qen hd
   have e1 : w64 ((h : Int) + 1) = ((h + 1 : Nat) : Int) := Qc3 (by omega) (by omega)
   have ih' := ih (h + 1) (by rw [hd']; rw [hd] at hh; simp at hh; omega)
   rw [hd'] at ih'
   simp only [show decide ((h : Int) < (T.length : Int)) = true from by simpa using hlt, cond_true, Qdt hi, Option.bind_some, e1, Qb0, Qkb, rowB, ih']
   by_cases h1 : r.length = nL j
   ·rw [show ((r.length : Int) != (j.Levels.length : Int)) = false from by simp [h1], cond_false]
    have s5 := s5_loop (N := N) hj hT (h := h) (by omega) r (by omega) (fun _ => bif Qkb j (h + 1) l then K () else some false) N 0 (by simp; omega)
    rw [List.drop_zero] at s5
    refine s5.trans ?_
    rw [show decide (r.length = nL j) = true from decide_eq_true h1, Bool.true_and]
    cases (r.all rngB && (!(decide (h = nH j)) || r.all fun x => !decide (x < 0))) <;> rfl
   ·rw [show ((r.length : Int) != (j.Levels.length : Int)) = true from by simp; unfold nL at h1; omega]
    simp [show decide (r.length = nL j) = false from decide_eq_false h1]
theorem s3_loop {N : Nat} {j : GJob} (hj : JobOK j) {T : List (List Int)} (hl : T.length = nH j + 1) (hB : Qkb j 0 T = true) {h l : Nat} (hh : h < nH j) (hl' : l < nL j) (K : Unit → Option Bool) : ∀ (n k : Nat), nL j - k < n → k ≤ nL j →
  Qdi N j T h l K n k = bif (List.range' k (nL j - k)).all (Ql2 j T h l) then K () else some false := by
 have hL := Qj5 hj
 have hH := Qkx hj
 obtain ⟨r, h1, _, h3, h4⟩ := Qnd hl hB (h := h + 1) (by omega)
 obtain ⟨r0, g1, _, g3, g4⟩ := Qnd hl hB (h := h) (by omega)
 intro n
 induction n with
 | zero => intro k hk; exact absurd hk (Nat.not_lt_zero _)
 | succ n ih =>
  intro k hn hk
  rw [Qdi]
  rcases Nat.eq_or_lt_of_le hk with e | hlt
  ·rw [show decide ((k : Int) < (j.Levels.length : Int)) = false from decide_eq_false (by unfold nL at e; omega), e, Nat.sub_self]
   rfl
  ·have hs : nL j - k = (nL j - (k + 1)) + 1 := by omega
   have e1 : w64 ((k : Int) + 1) = ((k + 1 : Nat) : Int) := Qc3 (by omega) (by omega)
   have e3 : w64 ((h : Int) + 1) = ((h + 1 : Nat) : Int) := Qc3 (by omega) (by omega)
   rw [show decide ((k : Int) < (j.Levels.length : Int)) = true from decide_eq_true (by unfold nL at hlt; omega), cond_true, Qk2 hj (hr_at hh) (by omega) (by omega), hs, List.range'_succ, List.all_cons]
   simp only [Option.bind_some, e1, e3]
   have ih' := ih (k + 1) (by omega) hlt
   cases hf : folB j (hr j h) l k with
   | false =>
    simp only [cond_false, Ql2, hf, Bool.not_false, Bool.true_or, Bool.true_and]
    exact ih'
   | true =>
    have gb := Qyi hj (List.mem_of_getElem? (hr_at hh)) (l : Int) (k : Int)
    have tb' := (tv_bd hl hB (h := h + 1) (l := k) (by omega) hlt).1
    have e2 : w64 (gnI j (hr j h) l k + tv T (h + 1) k) = gnI j (hr j h) l k + tv T (h + 1) k := Qc3 (by omega) (by omega)
    simp only [cond_true, Qdt h1, Qdt g1, Qdt (g4 l hl'), Qdt (h4 k hlt), Qr8 hj (hr_at hh) hf, Option.bind_some, e2, Ql2, hf, Bool.not_true, Bool.false_or]
    cases decide (tv T h l < gnI j (hr j h) l k + tv T (h + 1) k) with
    | true => simp
    | false => simpa using ih'
theorem s2_loop {N : Nat} {j : GJob} (hj : JobOK j) (hN : 300 ≤ N) {T : List (List Int)} (hl : T.length = nH j + 1) (hB : Qkb j 0 T = true) {h : Nat} (hh : h < nH j) (K : Unit → Option Bool) : ∀ (n l : Nat), nL j - l < n → l ≤ nL j →
  Qdj N j T h K n l = bif (List.range' l (nL j - l)).all (fun l => (List.range (nL j)).all (Ql2 j T h l)) then K () else some false := by
 have hL := Qj5 hj
 have hH := (Qkx hj).2
 intro n
 induction n with
 | zero => intro k hk; exact absurd hk (Nat.not_lt_zero _)
 | succ n ih =>
  intro l hn hk
  rw [Qdj]
  rcases Nat.eq_or_lt_of_le hk with e | hlt
  ·rw [show decide ((l : Int) < (j.Levels.length : Int)) = false from decide_eq_false (by unfold nL at e; omega), e, Nat.sub_self]
   rfl
  ·have hs : nL j - l = (nL j - (l + 1)) + 1 := by omega
   have e1 : w64 ((l : Int) + 1) = ((l + 1 : Nat) : Int) := Qc3 (by omega) (by omega)
   simp only [Qb0]
   rw [show decide ((l : Int) < (j.Levels.length : Int)) = true from decide_eq_true (by unfold nL at hlt; omega), cond_true, hs, List.range'_succ, List.all_cons]
   have := s3_loop (N := N) hj hl hB hh hlt (fun _ => Qdj N j T h K n (w64 ((l : Int) + 1))) N 0 (by omega) (by omega)
   rw [show ((0 : Nat) : Int) = 0 from rfl] at this
   rw [this, e1, ih (l + 1) (by omega) hlt, Nat.sub_zero, ← List.range_eq_range']
   cases (List.range (nL j)).all (Ql2 j T h l) <;> simp
theorem s1_loop {N : Nat} {j : GJob} (hj : JobOK j) (hN : 300 ≤ N) {T : List (List Int)} (hl : T.length = nH j + 1) (hB : Qkb j 0 T = true) (K : Unit → Option Bool) : ∀ (n h : Nat), nH j - h < n → h ≤ nH j →
  Qdk N j T K n h = bif (List.range' h (nH j - h)).all (fun h => (List.range (nL j)).all fun l => (List.range (nL j)).all (Ql2 j T h l)) then K () else some false := by
 have hL := Qj5 hj
 have hH := (Qkx hj).2
 intro n
 induction n with
 | zero => intro k hk; exact absurd hk (Nat.not_lt_zero _)
 | succ n ih =>
  intro h hn hk
  rw [Qdk]
  rcases Nat.eq_or_lt_of_le hk with e | hlt
  ·rw [show decide ((h : Int) < (j.Hours.length : Int)) = false from decide_eq_false (by unfold nH at e; omega), e, Nat.sub_self]
   rfl
  ·have hs : nH j - h = (nH j - (h + 1)) + 1 := by omega
   have e2 : w64 ((h : Int) + 1) = ((h + 1 : Nat) : Int) := Qc3 (by omega) (by omega)
   simp only [Qb0]
   rw [show decide ((h : Int) < (j.Hours.length : Int)) = true from decide_eq_true (by unfold nH at hlt; omega), cond_true, hs, List.range'_succ, List.all_cons]
   have := s2_loop (N := N) hj hN hl hB hlt (fun _ => Qdk N j T K n (w64 ((h : Int) + 1))) N 0 (by omega) (by omega)
   rw [show ((0 : Nat) : Int) = 0 from rfl] at this
   rw [this, e2, ih (h + 1) (by omega) hlt, Nat.sub_zero, ← List.range_eq_range']
   cases (List.range (nL j)).all (fun l => (List.range (nL j)).all (Ql2 j T h l)) <;> simp
theorem shows_eq {N : Nat} {j : GJob} {w : Int} {T : List (List Int)} (hj : JobOK j) (hN : 300 ≤ N) : Qil N j w T = some (decide (T.length = nH j + 1) && Qkb j 0 T && okT j T && decide (tv T 0 j.First.toNat ≤ w)) := by
 have hL := Qj5 hj
 have hH := Qkx hj
 unfold Qil
 rw [Qx4 hj]
 by_cases hl : T.length = nH j + 1
 ·rw [show ((T.length : Int) != ((nH j + 1 : Nat) : Int)) = false from by simp [hl]]
  simp only [cond_false, Qb0]
  have r1 := fun K => s4_loop (N := N) hj T hl hN K N 0 (by simp; omega)
  rw [show ((0 : Nat) : Int) = 0 from rfl, List.drop_zero] at r1
  rw [r1, show decide (T.length = nH j + 1) = true from decide_eq_true hl, Bool.true_and]
  cases hB : Qkb j 0 T with
  | false => rfl
  | true =>
   have r2 := fun K => s1_loop (N := N) hj hN hl hB K N 0 (by omega) (by omega)
   rw [show ((0 : Nat) : Int) = 0 from rfl, Nat.sub_zero, ← List.range_eq_range'] at r2
   simp only [cond_true, r2, Bool.true_and]
   unfold okT
   cases (List.range (nH j)).all (fun h => (List.range (nL j)).all fun l => (List.range (nL j)).all (Ql2 j T h l)) with
   | false => rfl
   | true =>
    obtain ⟨r, q1, _, q3, q4⟩ := Qnd hl hB (h := 0) (by omega)
    have hf := Qnk hj
    have hf1 : j.First ≤ (nL j : Int) - 1 := hj.f1
    have q5 : getI r j.First = some (tv T 0 j.First.toNat) := by
     have := Qdt (q4 j.First.toNat (by omega))
     rwa [show ((j.First.toNat : Nat) : Int) = j.First from by omega] at this
    have q6 : getI T 0 = some r := Qdt q1
    simp only [cond_true, q6, Option.bind_some, q5, Bool.true_and]
 ·rw [show ((T.length : Int) != ((nH j + 1 : Nat) : Int)) = true from by simp; omega]
  simp [show decide (T.length = nH j + 1) = false from decide_eq_false hl]
end Go.Proofs.Ytlhakkkjgdbdpaa
