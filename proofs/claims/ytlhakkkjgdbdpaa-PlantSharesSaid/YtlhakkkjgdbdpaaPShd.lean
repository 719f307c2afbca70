/-
  Plain laws of Share: what it returns is a sharing with prices whose bound is its work. No conditions.
-/
import Derived.Test.YtlhakkkjgdbdpaaPGrd
namespace Go.Proofs.Ytlhakkkjgdbdpaa
open Go.RowKit
section
variable {N : Nat} {h : List Int} {us : List GUnit}
theorem pc4_loop (u : GUnit) (i : Nat) (nx : List Int) (K : List Int × List GPiece → Option (List Int × List Int × List Int)) (hl : u.Parts.length ≤ 8) : ∀ (n j : Nat) (acc : List GPiece), u.Parts.length - j < n → j ≤ u.Parts.length → acc.length ≤ 1000 →
  Qb1 N i K u n j nx acc = K (nx, acc ++ (u.Parts.drop j).map fun q => (⟨(i : Int), q⟩ : GPiece)) := by
 intro n
 induction n with
 | zero => intro j _ h; exact absurd h (Nat.not_lt_zero _)
 | succ n ih =>
  intro j acc hn hj ha
  rw [Qb1]
  rcases Nat.eq_or_lt_of_le hj with e | hlt
  ·rw [show decide ((j : Int) < (u.Parts.length : Int)) = false from decide_eq_false (by omega), cond_false, List.drop_of_length_le (by omega), List.map_nil, List.append_nil]
  ·obtain ⟨q, hq⟩ : ∃ q, u.Parts[j]? = some q := ⟨_, List.getElem?_eq_getElem hlt⟩
   have e1 : w64 ((j : Int) + 1) = ((j + 1 : Nat) : Int) := Qa6 (by omega) (by omega)
   have d1 : decide ((acc.length + [(⟨(i : Int), q⟩ : GPiece)].length) * 24 ≤ 140737488355328) = true := decide_eq_true (by simp; omega)
   rw [show decide ((j : Int) < (u.Parts.length : Int)) = true from decide_eq_true (by omega)]
   simp only [cond_true, Qcv hq, Option.bind_some, chk, d1, e1]
   by_cases ha' : acc.length + 1 ≤ 1000
   ·rw [ih (j + 1) _ (by omega) hlt (by simp; omega), Qfn hq, List.map_cons]
    simp
   ·-- the list is long: one more element may not fit the bound, but then there is room still
    have : ∀ (m : Nat) (b : List GPiece) (k : Nat), u.Parts.length - k < m → k ≤ u.Parts.length → b.length + (u.Parts.length - k) ≤ 2000 →
      Qb1 N i K u m k nx b = K (nx, b ++ (u.Parts.drop k).map fun q => (⟨(i : Int), q⟩ : GPiece)) := by
     intro m
     induction m with
     | zero => intro b k h; exact absurd h (Nat.not_lt_zero _)
     | succ m ihm =>
      intro b k hm hk hb
      rw [Qb1]
      rcases Nat.eq_or_lt_of_le hk with e | hlt'
      ·rw [show decide ((k : Int) < (u.Parts.length : Int)) = false from decide_eq_false (by omega), cond_false, List.drop_of_length_le (by omega), List.map_nil, List.append_nil]
      ·obtain ⟨q', hq'⟩ : ∃ q, u.Parts[k]? = some q := ⟨_, List.getElem?_eq_getElem hlt'⟩
       have e2 : w64 ((k : Int) + 1) = ((k + 1 : Nat) : Int) := Qa6 (by omega) (by omega)
       have d2 : decide ((b.length + [(⟨(i : Int), q'⟩ : GPiece)].length) * 24 ≤ 140737488355328) = true := decide_eq_true (by simp; omega)
       rw [show decide ((k : Int) < (u.Parts.length : Int)) = true from decide_eq_true (by omega)]
       simp only [cond_true, Qcv hq', Option.bind_some, chk, d2, e2]
       rw [ihm _ (k + 1) (by omega) hlt' (by simp; omega), Qfn hq', List.map_cons]
       simp
    rw [this n _ (j + 1) (by omega) hlt (by simp; omega), Qfn hq, List.map_cons]
    simp
theorem Qq7 : ∀ (us : List GUnit) (i : Nat), (∀ u ∈ us, u.Parts.length ≤ 8) → (Qda i us).length ≤ 8 * us.length
 | [], _, _ => Nat.le_refl _
 | u :: us, i, h => by
  have h1 := Qq7 us (i + 1) fun x hx => h x (List.mem_cons_of_mem _ hx)
  have h2 := h u (List.mem_cons_self ..)
  simp only [Qda, List.length_append, List.length_map, List.length_cons]
  omega
theorem pc3_loop (hul : us.length ≤ 10) (hu : ∀ u ∈ us, u.Parts.length ≤ 8) (hN : 100 ≤ N) (K : List Int × List GPiece → Option (List Int × List Int × List Int)) : ∀ (n i : Nat) (acc : List GPiece), us.length - i < n → i ≤ us.length → acc.length ≤ 8 * i →
  Qca N ⟨h, us⟩ K n i (List.replicate i (-1)) acc = K (List.replicate us.length (-1), acc ++ Qda i (us.drop i)) := by
 intro n
 induction n with
 | zero => intro i _ h; exact absurd h (Nat.not_lt_zero _)
 | succ n ih =>
  intro i acc hn hi ha
  rw [Qca]
  rcases Nat.eq_or_lt_of_le hi with e | hlt
  ·rw [show decide ((i : Int) < (us.length : Int)) = false from decide_eq_false (by omega), cond_false, List.drop_of_length_le (by omega), Qda, List.append_nil, e]
  ·obtain ⟨u, hu'⟩ : ∃ u, us[i]? = some u := ⟨_, List.getElem?_eq_getElem hlt⟩
   have hub := hu u (List.mem_of_getElem? hu')
   have e1 : w64 ((i : Int) + 1) = ((i + 1 : Nat) : Int) := Qa6 (by omega) (by omega)
   have d1 : decide (((List.replicate i (-1 : Int)).length + [(-1 : Int)].length) * 8 ≤ 140737488355328) = true := decide_eq_true (by simp; omega)
   have er : List.replicate i (-1 : Int) ++ [-1] = List.replicate (i + 1) (-1) := by rw [List.replicate_succ']
   simp only [Qbr]
   rw [show decide ((i : Int) < (us.length : Int)) = true from decide_eq_true (by omega)]
   simp only [cond_true, Qcv hu', Option.bind_some, chk, d1, er]
   have := pc4_loop (N := N) u i (List.replicate (i + 1) (-1)) (fun x => Qca N ⟨h, us⟩ K n (w64 ((i : Int) + 1)) x.1 x.2) hub N 0 acc (by omega) (by omega) (by omega)
   rw [show ((0 : Nat) : Int) = 0 from rfl, List.drop_zero] at this
   refine Eq.trans this ?_
   rw [e1, ih (i + 1) _ (by omega) hlt (by simp; omega), Qfn hu', Qda, List.append_assoc]
theorem low_loop (u : GUnit) (m : Int) (c L : Nat) (hc : c < L) (hL : L ≤ 6) (hui : u.Inlet = (c : Int)) (K : List Int → Option (List Int × List Int × List Int)) (m0 : 0 ≤ m) (m1 : m ≤ 100000) : ∀ (n k : Nat) (f : Nat → Int), c + 1 - k < n → k ≤ c + 1 → (∀ i, k ≤ i → 0 ≤ f i ∧ f i ≤ 6000000) →
  Qcs N u m K ((c + 1 : Nat) : Int) n k (rw' L f) = K (rw' L (fun i => if k ≤ i ∧ i ≤ c then f i - m else f i)) := by
 intro n
 induction n with
 | zero => intro k f h; exact absurd h (Nat.not_lt_zero _)
 | succ n ih =>
  intro k f hn hk hf
  rw [Qcs]
  rcases Nat.eq_or_lt_of_le hk with e | hlt
  ·rw [show decide ((k : Int) < ((c + 1 : Nat) : Int)) = false from decide_eq_false (by omega), cond_false]
   congr 1
   exact Qjp fun i hi => by rw [if_neg (by omega)]
  ·have e1 : w64 ((k : Int) + 1) = ((k + 1 : Nat) : Int) := Qa6 (by omega) (by omega)
   have hfk := hf k (Nat.le_refl _)
   have e2 : w64 (f k - m) = f k - m := Qa6 (by omega) (by omega)
   have e3 : (w64 (u.Inlet + 1)).toNat - (0 : Int).toNat = c + 1 := by rw [hui, Qa6 (by omega) (by omega)]; simp
   have d1 : decide (0 ≤ (k : Int)) = true := decide_eq_true (by omega)
   have d2 : decide (k < c + 1) = true := decide_eq_true (by omega)
   rw [show decide ((k : Int) < ((c + 1 : Nat) : Int)) = true from decide_eq_true (by omega), e3]
   simp only [cond_true, chk, Int.toNat_natCast, d1, d2, Bool.and_self, Qg4 f (by omega : k < L), Option.bind_some, e1, e2, Qpv]
   rw [ih (k + 1) _ (by omega) hlt (fun i hi => by
    unfold updN
    rw [if_neg (by omega)]
    exact hf i (by omega))]
   congr 1
   refine Qjp fun i hi => ?_
   unfold updN
   by_cases he : i = k
   ·subst he
    rw [if_neg (by omega), if_pos rfl, if_pos ⟨Nat.le_refl _, by omega⟩]
   ·rw [if_neg he]
    by_cases h2 : k + 1 ≤ i ∧ i ≤ c
    ·rw [if_pos h2, if_pos (by omega)]
    ·rw [if_neg h2, if_neg (by omega)]
theorem best_loop (hk : ShOK h us) (hN : 300 ≤ N) (Ln : List GPiece) (nl : List Int) (hnl : nl.length = us.length) (D : List GPiece) (hLn : Ln.length = D.length) (hDl : D.length ≤ 100) (hD : ∀ p ∈ D, (∃ (i : Nat) (u : GUnit), us[i]? = some u ∧ p.unit = (i : Int)) ∧ (1 ≤ p.Part.Width ∧ p.Part.Width ≤ 100000) ∧ 0 ≤ p.Part.Gain)
  (K : List Int × List Int × List Int → Option (List Int × List Int × List Int)) : ∀ (n j : Nat) (f r nx : Nat → Int), D.length - j < n → j ≤ D.length → (∀ i, 0 ≤ f i ∧ f i ≤ 100000 * (j : Int)) → (∀ k, 0 ≤ r k ∧ r k ≤ 6000000) →
  Qbm N ⟨h, us⟩ nl Ln K D n j (rw' us.length f) (rw' h.length r) (rw' us.length nx) =
   K (rw' us.length (fun i => f i + Qom (gre us (D.drop j) r) i), rw' h.length (greR us (D.drop j) r), rw' us.length (fun i => if nx i < 0 then (if nxt (gre us (D.drop j) r) i < 0 then nx i else nxt (gre us (D.drop j) r) i) else nx i)) := by
 have hh := hk.h1
 have h0 := hk.h0
 have hul := hk.u1
 intro n
 induction n with
 | zero => intro j f r nx h; exact absurd h (Nat.not_lt_zero _)
 | succ n ih =>
  intro j f r nx hn hj hf hr
  rw [Qbm]
  rcases Nat.eq_or_lt_of_le hj with e | hlt
  ·rw [show decide ((j : Int) < ((Ln.length : Nat) : Int)) = false from decide_eq_false (by omega), cond_false, List.drop_of_length_le (by omega)]
   simp only [gre, greR, Qom, nxt, Int.add_zero]
   have e3 : (fun i => if nx i < 0 then (if (-1 : Int) < 0 then nx i else -1) else nx i) = nx := by funext i; split <;> simp
   rw [e3]
  ·obtain ⟨p, hp⟩ : ∃ p, D[j]? = some p := ⟨_, List.getElem?_eq_getElem hlt⟩
   obtain ⟨⟨i, u, hu, hpu⟩, hpw, hpg⟩ := hD p (List.mem_of_getElem? hp)
   have hui := hk.inl u (List.mem_of_getElem? hu)
   have hil : i < us.length := (List.getElem?_eq_some_iff.1 hu).1
   obtain ⟨c, hc⟩ : ∃ c : Nat, u.Inlet = (c : Int) := ⟨u.Inlet.toNat, by omega⟩
   have hcl : c < h.length := by omega
   have hin : inl us p = c := by unfold inl; rw [hpu, Int.toNat_natCast, List.getD_eq_getElem?_getD, hu]; simp [hc]
   have hb := Qv7 (us := us) (r := r) (p := p) (fun k => (hr k).1) hpw.1
   have e1 : w64 ((j : Int) + 1) = ((j + 1 : Nat) : Int) := Qa6 (by omega) (by omega)
   have e2 : w64 (u.Inlet + 1) = ((c + 1 : Nat) : Int) := by rw [hc, Qa6 (by omega) (by omega)]; omega
   have d1 : decide (0 ≤ (j : Int)) = true := decide_eq_true (by omega)
   have d2 : decide (j < Ln.length) = true := decide_eq_true (by omega)
   have d3 : (decide ((0 : Int) ≤ 0) && decide (0 ≤ ((c + 1 : Nat) : Int)) && decide (((c + 1 : Nat) : Int) ≤ ((h.length : Nat) : Int))) = true := by
    rw [decide_eq_true (show 0 ≤ ((c + 1 : Nat) : Int) from by omega), decide_eq_true (show ((c + 1 : Nat) : Int) ≤ ((h.length : Nat) : Int) from by omega)]
    rfl
   have d4 : decide ((0 : Int) < ((h.length : Nat) : Int)) = true := decide_eq_true (by omega)
   have e3 : c + 1 - (0 : Int).toNat = c + 1 := rfl
   have d5 : decide (0 ≤ p.unit) = true := decide_eq_true (by omega)
   have d6 : decide (i < us.length) = true := decide_eq_true hil
   have d7 : decide (i < nl.length) = true := decide_eq_true (by omega)
   have hgu : getI us p.unit = some u := by rw [hpu]; exact Qcv hu
   have e4 : p.unit.toNat = i := by omega
   have hmin := min1_eq (N := N) (c := c + 1) (L := h.length) r (by omega) (by omega) hh hN
   rw [Nat.add_sub_cancel] at hmin
   have htk : (if minI r c < p.Part.Width then minI r c else p.Part.Width) = tk us r p := by unfold tk; rw [hin]
   have e5 : w64 (f i + tk us r p) = f i + tk us r p := by have := hf i; exact Qa6 (by omega) (by omega)
   simp only [Qbr]
   rw [show decide ((j : Int) < ((Ln.length : Nat) : Int)) = true from decide_eq_true (by omega)]
   simp only [cond_true, chk, Int.toNat_natCast, d1, d2, Bool.and_self, hp, Option.bind_some, hgu, e2, d3, d4, e3, hmin, htk, d5, e4, d6, Qg4 f hil, e5, Qpv, d7, Qg4 nx hil, e1]
   have hlow := low_loop (N := N) u (tk us r p) c h.length hcl hh hc (fun y51 => bif (decide (tk us r p < p.Part.Width)) then
     bif (decide (nx i < 0)) then Qbm N ⟨h, us⟩ nl Ln K D n ((j + 1 : Nat) : Int) (rw' us.length (updN f i (f i + tk us r p))) y51 (rw' us.length (updN nx i p.Part.Gain))
     else Qbm N ⟨h, us⟩ nl Ln K D n ((j + 1 : Nat) : Int) (rw' us.length (updN f i (f i + tk us r p))) y51 (rw' us.length nx)
    else Qbm N ⟨h, us⟩ nl Ln K D n ((j + 1 : Nat) : Int) (rw' us.length (updN f i (f i + tk us r p))) y51 (rw' us.length nx)) hb.1 (by omega) N 0 r (by omega) (Nat.zero_le _) (fun k _ => hr k)
   rw [show ((0 : Nat) : Int) = 0 from rfl] at hlow
   refine Eq.trans hlow ?_
   have elow : (fun k => if 0 ≤ k ∧ k ≤ c then r k - tk us r p else r k) = Qk9 r (inl us p) (tk us r p) := by
    funext k
    unfold Qk9
    rw [hin]
    by_cases hkc : k ≤ c
    ·rw [if_pos ⟨Nat.zero_le _, hkc⟩, if_pos hkc]
    ·rw [if_neg (fun x => hkc x.2), if_neg hkc]
   rw [elow]
   have hf' : ∀ l, 0 ≤ updN f i (f i + tk us r p) l ∧ updN f i (f i + tk us r p) l ≤ 100000 * ((j + 1 : Nat) : Int) := fun l => by
    unfold updN
    have h1 := hf l
    have h2 := hf i
    split <;> omega
   have hr' : ∀ k, 0 ≤ Qk9 r (inl us p) (tk us r p) k ∧ Qk9 r (inl us p) (tk us r p) k ≤ 6000000 := fun k => by
    have h1 := Qny (us := us) (r := r) (p := p) (fun k => (hr k).1) hpw.1 k
    have h2 := Qxx (us := us) (r := r) (p := p) (fun k => (hr k).1) hpw.1 k
    have := hr k
    omega
   have hdrop := Qfn hp
   have em : (fun l => updN f i (f i + tk us r p) l + Qom (gre us (D.drop (j + 1)) (Qk9 r (inl us p) (tk us r p))) l) = fun l => f l + Qom (gre us (D.drop j) r) l := by
    funext l
    rw [hdrop, gre, Qom]
    dsimp only
    rw [e4]
    unfold updN
    by_cases hl : l = i
    ·subst hl; rw [if_pos rfl, if_pos rfl]; omega
    ·rw [if_neg hl, if_neg (fun x => hl x.symm)]; omega
   have er : greR us (D.drop (j + 1)) (Qk9 r (inl us p) (tk us r p)) = greR us (D.drop j) r := by rw [hdrop]; rfl
   by_cases hw : tk us r p < p.Part.Width
   ·rw [show decide (tk us r p < p.Part.Width) = true from decide_eq_true hw, cond_true]
    by_cases hx : nx i < 0
    ·rw [show decide (nx i < 0) = true from decide_eq_true hx, cond_true, ih (j + 1) _ _ _ (by omega) hlt hf' hr', em, er]
     congr 3
     refine Qjp fun l _ => ?_
     rw [hdrop, gre, nxt]
     dsimp only
     rw [e4]
     unfold updN
     by_cases hl : l = i
     ·subst hl
      have hg0 : ¬ p.Part.Gain < 0 := by omega
      simp [hx, hw, hg0]
     ·rw [if_neg hl, if_neg (fun x : i = l ∧ _ => hl x.1.symm)]
    ·rw [show decide (nx i < 0) = false from decide_eq_false hx, cond_false, ih (j + 1) _ _ _ (by omega) hlt hf' hr', em, er]
     congr 3
     refine Qjp fun l _ => ?_
     rw [hdrop, gre, nxt]
     dsimp only
     rw [e4]
     by_cases hl : l = i
     ·subst hl
      rw [if_neg hx, if_neg hx]
     ·rw [if_neg (fun x : i = l ∧ _ => hl x.1.symm)]
   ·rw [show decide (tk us r p < p.Part.Width) = false from decide_eq_false hw, cond_false, ih (j + 1) _ _ _ (by omega) hlt hf' hr', em, er]
    congr 3
    refine Qjp fun l _ => ?_
    rw [hdrop, gre, nxt]
    dsimp only
    rw [if_neg (fun x : _ ∧ tk us r p < p.Part.Width => hw x.2)]
theorem Qws {β : Type} (c n : Nat) (hn : n ≤ 1000) (hc : c ≤ 100) (k : Option β) : chk (decide (0 ≤ (n : Int)) && decide ((c : Int) * (n : Int) ≤ 281474976710656) && decide ((n : Int) ≤ 9223372036854775807)) k = k := by
 have h1 : (c : Int) * (n : Int) ≤ 281474976710656 := by
  have : c * n ≤ 100 * 1000 := Nat.mul_le_mul hc hn
  have e : ((c * n : Nat) : Int) = (c : Int) * (n : Int) := by simp
  omega
 rw [chk, decide_eq_true (show 0 ≤ (n : Int) from by omega), decide_eq_true h1, decide_eq_true (show (n : Int) ≤ 9223372036854775807 from by omega)]
 rfl
theorem best_eq (hk : ShOK h us) (hN : 2000 ≤ N) : ∃ D, DOK h us D ∧ Qfj N ⟨h, us⟩ = some (Qk8 h us D, rw' h.length (greR us D (fro h)), rw' us.length (fun i => if nxt (gre us D (fro h)) i < 0 then -1 else nxt (gre us D (fro h)) i)) := by
 have hh := hk.h1
 have h0 := hk.h0
 have hul := hk.u1
 have hu0 := hk.u0
 have hpl : ∀ u ∈ us, u.Parts.length ≤ 8 := fun u hu => by have := (Qev (hk.ub u hu)).2.1.2; omega
 have hlen := Qq7 us 0 hpl
 have hsm : Qg7 (Qda 0 us) := fun p hp => by
  obtain ⟨i, u, h1, _, h3⟩ := Qia us 0 p hp
  have := Qlz (hk.ub u (List.mem_of_getElem? h1)) p.Part h3
  omega
 obtain ⟨D, d1, d2⟩ := sort_eq (N := N) (D := Qda 0 us) (by omega) (by omega) (by omega) hsm
 have hd : DOK h us D := ⟨hk, d1⟩
 have hDl := Stb.len d1.eqf
 refine ⟨D, hd, ?_⟩
 have hne : (Qda 0 us).isEmpty = false := by
  cases hus : us with
  | nil => rw [hus] at hu0; simp at hu0
  | cons u l =>
   have := (Qev (hk.ub u (by rw [hus]; simp))).2.1.1
   rw [List.isEmpty_eq_false_iff]
   intro e
   have e2 := congrArg List.length e
   simp [Qda] at e2
   rw [e2.1] at this
   simp at this
 have hne2 : (List.replicate us.length (-1 : Int)).isEmpty = false := by
  rw [List.isEmpty_eq_false_iff]
  intro e
  have := congrArg List.length e
  simp at this
  rw [this] at hu0
  simp at hu0
 unfold Qfj
 have hc := Qws (β := List Int × List Int × List Int) 8 us.length (by omega) (by omega)
 rw [show ((8 : Nat) : Int) = 8 from rfl] at hc
 rw [hc, room_eq hk.h0 hk.h1 hk.hm (by omega)]
 simp only [Qbr, Option.bind_some]
 have a1 := pc3_loop (N := N) (h := h) (us := us) hul hpl (by omega) (fun x => chk (!x.1.isEmpty) (chk (!x.2.isEmpty) ((Qct N x.2.length x.2).bind fun x23 => Qbm N ⟨h, us⟩ x.1 x.2 (fun y => chk (decide ((us.length : Int).toNat ≤ y.1.length)) (chk (decide (h.length ≤ y.2.1.length)) (chk (decide (x.1.length ≤ y.2.2.length)) (some (y.1.take ((us.length : Int).toNat), y.2.1.take h.length, y.2.2.take x.1.length))))) x23 N 0 (List.replicate (us.length : Int).toNat 0) (rw' h.length (fro h)) x.1))) N 0 [] (by omega) (Nat.zero_le _) (Nat.zero_le _)
 rw [show ((0 : Nat) : Int) = 0 from rfl, List.drop_zero, List.nil_append, List.replicate_zero] at a1
 refine Eq.trans a1 ?_
 have hne3 : (rw' us.length (fun _ => (-1 : Int))).isEmpty = false := by rw [← Qt8]; exact hne2
 simp only [chk, hne, hne3, Bool.not_false, cond_true, d2, Option.bind_some, Int.toNat_natCast, Qt8]
 have a2 := best_loop (N := N) (h := h) (us := us) hk (by omega) (Qda 0 us) (rw' us.length (fun _ => -1)) (Qlf _ _) D hDl.symm (by omega) (fun p hp => by
  obtain ⟨i, u, h1, h2, _⟩ := hd.mem hp
  have := hd.prt hp
  exact ⟨⟨i, u, h1, h2⟩, this.1, this.2.1⟩) (fun y => bif (decide (us.length ≤ y.1.length)) then (bif (decide (h.length ≤ y.2.1.length)) then (bif (decide ((rw' us.length (fun _ => (-1 : Int))).length ≤ y.2.2.length)) then (some (y.1.take us.length, y.2.1.take h.length, y.2.2.take (rw' us.length (fun _ => (-1 : Int))).length)) else none) else none) else none) N 0 (fun _ => 0) (fro h) (fun _ => -1) (by omega) (Nat.zero_le _) (fun i => by simp) (fun k => Qur hh hk.hm k)
 rw [show ((0 : Nat) : Int) = 0 from rfl, List.drop_zero] at a2
 refine Eq.trans a2 ?_
 simp only [Qlf, Nat.le_refl, decide_true, cond_true]
 rw [List.take_of_length_le (by rw [Qlf]; exact Nat.le_refl _), List.take_of_length_le (by rw [Qlf]; exact Nat.le_refl _), List.take_of_length_le (by rw [Qlf]; exact Nat.le_refl _)]
 congr 2
 ·unfold Qk8 Qm3
  exact Qjp fun i _ => Int.zero_add _
def kz (r : Nat → Int) : Nat → Nat
 | 0 => 0
 | c + 1 => if r (c + 1) > 0 then kz r c else c + 1
theorem kz_ok (r : Nat → Int) : ∀ (c : Nat), (∃ z, z ≤ c ∧ r z ≤ 0) → kz r c ≤ c ∧ r (kz r c) ≤ 0 ∧ ∀ k, kz r c < k → k ≤ c → 0 < r k
 | 0, ⟨z, h1, h2⟩ => by
  rw [show z = 0 from by omega] at h2
  exact ⟨Nat.le_refl _, h2, fun k a b => by rw [kz] at a; omega⟩
 | c + 1, ⟨z, h1, h2⟩ => by
  rw [kz]
  split
  ·next hp =>
   have hz : z ≤ c := by
    rcases Nat.eq_or_lt_of_le h1 with rfl | hlt
    ·omega
    ·omega
   obtain ⟨k1, k2, k3⟩ := kz_ok r c ⟨z, hz, h2⟩
   refine ⟨by omega, k2, fun k a b => ?_⟩
   rcases Nat.eq_or_lt_of_le b with rfl | hlt
   ·exact hp
   ·exact k3 k a (by omega)
  ·next hp => exact ⟨Nat.le_refl _, by omega, fun k a b => by omega⟩
theorem kz_loop (x5 : List Int × List Int × List Int) (L : Nat) (r : Nat → Int) (hL : L ≤ 6) (hx : x5.2.1 = rw' L r) (K : Int → Option (List Int × Int × List Int × Int)) : ∀ (n c : Nat), c < n → c < L → (∃ z, z ≤ c ∧ r z ≤ 0) → Qd6 N x5 K n c = K (kz r c) := by
 intro n
 induction n with
 | zero => intro c h; exact absurd h (Nat.not_lt_zero _)
 | succ n ih =>
  intro c hn hc hz
  rw [Qd6, hx, Qcv (Qg4 r hc), Option.bind_some]
  cases c with
  | zero =>
   obtain ⟨z, z1, z2⟩ := hz
   rw [show z = 0 from by omega] at z2
   rw [show decide (r 0 > 0) = false from decide_eq_false (by omega)]
   rfl
  | succ c =>
   rw [kz]
   by_cases hp : r (c + 1) > 0
   ·rw [show decide (r (c + 1) > 0) = true from decide_eq_true hp, cond_true, if_pos hp, show w64 (((c + 1 : Nat) : Int) - 1) = (c : Int) from by rw [Qa6 (by omega) (by omega)]; omega]
    obtain ⟨z, z1, z2⟩ := hz
    refine ih c (by omega) (by omega) ⟨z, ?_, z2⟩
    rcases Nat.eq_or_lt_of_le z1 with rfl | hlt
    ·omega
    ·omega
   ·rw [show decide (r (c + 1) > 0) = false from decide_eq_false hp, cond_false, if_neg hp]
theorem max_loop (x : Int) (hh : h.length ≤ 6) (K : List Int → Option (List Int × Int × List Int × Int)) : ∀ (n k : Nat) (f : Nat → Int), h.length - k < n → k ≤ h.length →
  Qd7 N h K x n k (rw' h.length f) = K (rw' h.length (fun i => if k ≤ i then (if x > f i then x else f i) else f i)) := by
 intro n
 induction n with
 | zero => intro k f h; exact absurd h (Nat.not_lt_zero _)
 | succ n ih =>
  intro k f hn hk
  rw [Qd7]
  have e0 : (((h.length : Int).toNat : Nat) : Int) = (h.length : Int) := by simp
  rw [e0]
  rcases Nat.eq_or_lt_of_le hk with e | hlt
  ·rw [show decide ((k : Int) < (h.length : Int)) = false from decide_eq_false (by omega), cond_false]
   congr 1
   exact Qjp fun i hi => by rw [if_neg (by omega)]
  ·have e1 : w64 ((k : Int) + 1) = ((k + 1 : Nat) : Int) := Qa6 (by omega) (by omega)
   have d1 : decide (0 ≤ (k : Int)) = true := decide_eq_true (by omega)
   have d2 : decide (k < h.length) = true := decide_eq_true (by omega)
   rw [show decide ((k : Int) < (h.length : Int)) = true from decide_eq_true (by omega)]
   simp only [cond_true, chk, Int.toNat_natCast, d1, d2, Bool.and_self, Qg4 f hlt, Option.bind_some, e1, Qpv]
   rw [ih (k + 1) _ (by omega) hlt]
   congr 1
   refine Qjp fun i hi => ?_
   unfold updN
   by_cases he : i = k
   ·subst he
    rw [if_neg (show ¬ i + 1 ≤ i from by omega), if_pos rfl, if_pos (Nat.le_refl _)]
   ·rw [if_neg he]
    by_cases h2 : k + 1 ≤ i
    ·rw [if_pos h2, if_pos (show k ≤ i from by omega)]
    ·rw [if_neg h2, if_neg (show ¬ k ≤ i from by omega)]
def Qo6 (nx : Nat → Int) (r : Nat → Int) : List GUnit → Nat → (Nat → Int) → (Nat → Int)
 | [], _, c => c
 | u :: us, i, c => Qo6 nx r us (i + 1) (if nx i ≤ 0 then c else fun k => if kz r u.Inlet.toNat ≤ k then (if nx i > c k then nx i else c k) else c k)
theorem Qyf (nx r : Nat → Int) : ∀ (us : List GUnit) (i : Nat) (c : Nat → Int) (k : Nat), c k ≤ Qo6 nx r us i c k ∧
  (∀ j u, us[j]? = some u → 0 < nx (i + j) → kz r u.Inlet.toNat ≤ k → nx (i + j) ≤ Qo6 nx r us i c k) ∧
  (Qo6 nx r us i c k = c k ∨ ∃ j u, us[j]? = some u ∧ 0 < nx (i + j) ∧ kz r u.Inlet.toNat ≤ k ∧ Qo6 nx r us i c k = nx (i + j))
 | [], i, c, k => ⟨Int.le_refl _, fun j u h => by simp at h, Or.inl rfl⟩
 | u :: us, i, c, k => by
  obtain ⟨a1, a2, a3⟩ := Qyf nx r us (i + 1) (if nx i ≤ 0 then c else fun k => if kz r u.Inlet.toNat ≤ k then (if nx i > c k then nx i else c k) else c k) k
  rw [Qo6]
  generalize hc' : (if nx i ≤ 0 then c else fun k => if kz r u.Inlet.toNat ≤ k then (if nx i > c k then nx i else c k) else c k) = c' at a1 a2 a3 ⊢
  have b1 : c k ≤ c' k ∧ (0 < nx i → kz r u.Inlet.toNat ≤ k → nx i ≤ c' k) ∧ (c' k = c k ∨ (0 < nx i ∧ kz r u.Inlet.toNat ≤ k ∧ c' k = nx i)) := by
   rw [← hc']
   by_cases h1 : nx i ≤ 0
   ·rw [if_pos h1]; exact ⟨Int.le_refl _, fun h => by omega, Or.inl rfl⟩
   ·rw [if_neg h1]
    by_cases h2 : kz r u.Inlet.toNat ≤ k
    ·rw [if_pos h2]
     by_cases h3 : nx i > c k
     ·rw [if_pos h3]; exact ⟨by omega, fun _ _ => Int.le_refl _, Or.inr ⟨by omega, h2, rfl⟩⟩
     ·rw [if_neg h3]; exact ⟨Int.le_refl _, fun _ _ => by omega, Or.inl rfl⟩
    ·rw [if_neg h2]; exact ⟨Int.le_refl _, fun _ h => absurd h h2, Or.inl rfl⟩
  refine ⟨by omega, fun j v hv hj hk => ?_, ?_⟩
  ·cases j with
   | zero =>
    simp at hv
    subst hv
    rw [Nat.add_zero] at hj ⊢
    have := b1.2.1 hj hk
    omega
   | succ j =>
    rw [show i + (j + 1) = i + 1 + j from by omega] at hj ⊢
    exact a2 j v (by simpa using hv) hj hk
  ·rcases a3 with e | ⟨j, v, j1, j2, j3, j4⟩
   ·rcases b1.2.2 with e2 | ⟨e2, e3, e4⟩
    ·exact Or.inl (e.trans e2)
    ·exact Or.inr ⟨0, u, rfl, by rw [Nat.add_zero]; exact e2, e3, e.trans e4⟩
   ·exact Or.inr ⟨j + 1, v, by simpa using j1, by rw [show i + (j + 1) = i + 1 + j from by omega]; exact j2, j3, by rw [show i + (j + 1) = i + 1 + j from by omega]; exact j4⟩
theorem cost_loop (hk : ShOK h us) (hN : 300 ≤ N) (x5 : List Int × List Int × List Int) (r nx : Nat → Int) (hx1 : x5.2.1 = rw' h.length r) (hx2 : x5.2.2 = rw' us.length nx) (hz : ∀ i u, us[i]? = some u → 0 < nx i → ∃ z, z ≤ u.Inlet.toNat ∧ r z ≤ 0)
  (K : List Int → Option (List Int × Int × List Int × Int)) : ∀ (n i : Nat) (c : Nat → Int), us.length - i < n → i ≤ us.length →
  Qd8 N h us x5 K n i (rw' h.length c) = K (rw' h.length (Qo6 nx r (us.drop i) i c)) := by
 have hh := hk.h1
 have hul := hk.u1
 intro n
 induction n with
 | zero => intro i c h; exact absurd h (Nat.not_lt_zero _)
 | succ n ih =>
  intro i c hn hi
  rw [Qd8]
  rcases Nat.eq_or_lt_of_le hi with e | hlt
  ·rw [show decide ((i : Int) < (us.length : Int)) = false from decide_eq_false (by omega), cond_false, List.drop_of_length_le (by omega), Qo6]
  ·obtain ⟨u, hu⟩ : ∃ u, us[i]? = some u := ⟨_, List.getElem?_eq_getElem hlt⟩
   have hui := hk.inl u (List.mem_of_getElem? hu)
   have e1 : w64 ((i : Int) + 1) = ((i + 1 : Nat) : Int) := Qa6 (by omega) (by omega)
   simp only [Qbr]
   rw [show decide ((i : Int) < (us.length : Int)) = true from decide_eq_true (by omega), hx2, Qcv (Qg4 nx hlt)]
   simp only [cond_true, Qcv hu, Option.bind_some, e1]
   rw [Qfn hu, Qo6]
   by_cases hx : nx i ≤ 0
   ·rw [show decide (nx i ≤ 0) = true from decide_eq_true hx, cond_true, ih (i + 1) c (by omega) hlt, if_pos hx]
   ·rw [show decide (nx i ≤ 0) = false from decide_eq_false hx, cond_false, if_neg hx]
    obtain ⟨cc, hcc⟩ : ∃ cc : Nat, u.Inlet = (cc : Int) := ⟨u.Inlet.toNat, by omega⟩
    have hz' := hz i u hu (by omega)
    rw [hcc, Int.toNat_natCast] at hz'
    rw [hcc, kz_loop (N := N) x5 h.length r hh hx1 _ N cc (by omega) (by omega) hz', max_loop (N := N) (h := h) (nx i) hh _ N (kz r cc) c (by omega) (by have := (kz_ok r cc hz').1; omega), ih (i + 1) _ (by omega) hlt, Int.toNat_natCast]
theorem price_loop (hh : h.length ≤ 6) (c : Nat → Int) (hc : ∀ k, k < h.length → 0 ≤ c k ∧ c k ≤ 1000) (K : List Int → Option (List Int × Int × List Int × Int)) : ∀ (n k : Nat) (acc : List Int), h.length - k < n → k ≤ h.length → acc.length = k →
  Qdm N h (rw' h.length c) K n acc (if k = 0 then 0 else c (k - 1)) k = K (acc ++ (List.range' k (h.length - k)).map fun i => c i - (if i = 0 then 0 else c (i - 1))) := by
 intro n
 induction n with
 | zero => intro k acc h; exact absurd h (Nat.not_lt_zero _)
 | succ n ih =>
  intro k acc hn hk ha
  rw [Qdm]
  have e0 : (((h.length : Int).toNat : Nat) : Int) = (h.length : Int) := by simp
  rw [e0]
  rcases Nat.eq_or_lt_of_le hk with e | hlt
  ·rw [show decide ((k : Int) < (h.length : Int)) = false from decide_eq_false (by omega), cond_false, e, Nat.sub_self]
   simp
  ·have e1 : w64 ((k : Int) + 1) = ((k + 1 : Nat) : Int) := Qa6 (by omega) (by omega)
   have d1 : decide (0 ≤ (k : Int)) = true := decide_eq_true (by omega)
   have d2 : decide (k < h.length) = true := decide_eq_true (by omega)
   have hck := hc k hlt
   have hb : 0 ≤ (if k = 0 then 0 else c (k - 1)) ∧ (if k = 0 then 0 else c (k - 1)) ≤ 1000 := by
    split
    ·omega
    ·exact hc (k - 1) (by omega)
   have e2 : w64 (c k - (if k = 0 then 0 else c (k - 1))) = c k - (if k = 0 then 0 else c (k - 1)) := Qa6 (by omega) (by omega)
   have d3 : decide ((acc.length + [c k - (if k = 0 then 0 else c (k - 1))].length) * 8 ≤ 140737488355328) = true := decide_eq_true (by simp; omega)
   have hs : h.length - k = (h.length - (k + 1)) + 1 := by omega
   rw [show decide ((k : Int) < (h.length : Int)) = true from decide_eq_true (by omega)]
   simp only [cond_true, chk, Int.toNat_natCast, d1, d2, Bool.and_self, Qg4 c hlt, Option.bind_some, e1, e2, d3]
   have := ih (k + 1) (acc ++ [c k - (if k = 0 then 0 else c (k - 1))]) (by omega) hlt (by simp; omega)
   rw [if_neg (show ¬ k + 1 = 0 from by omega), Nat.add_sub_cancel] at this
   rw [this, hs, List.range'_succ, List.map_cons]
   simp
theorem share_eq (hv : Qjn h us = true) (hN : 2000 ≤ N) : ∃ D p, DOK h us D ∧ Qf4 N h us = some (Qk8 h us D, Qj8 us (Qk8 h us D), p, 0) ∧ Qko h p = true ∧ Qrf h us p = Qj8 us (Qk8 h us D) := by
 have hk := shOK hv
 have hh := hk.h1
 have h0 := hk.h0
 have hul := hk.u1
 obtain ⟨D, hd, hb⟩ := best_eq (N := N) hk hN
 have hrn := Qop (us := us) D (fro h) hd.wide hd.nn
 have hnx : ∀ i, nxt (gre us D (fro h)) i ≤ 1000 := fun i => by
  rcases Qsf (T := gre us D (fro h)) (i := i) with e | ⟨q, q1, _, q3⟩
  ·omega
  ·have := (hd.prt (Qm7 D (fro h) hd.wide hd.nn q q1).1).2.2
   omega
 let nx : Nat → Int := fun i => if nxt (gre us D (fro h)) i < 0 then -1 else nxt (gre us D (fro h)) i
 have nxe : ∀ i, 0 < nx i → nx i = nxt (gre us D (fro h)) i := fun i hi => by
  show (if _ then _ else _) = _
  have hi' : 0 < (if nxt (gre us D (fro h)) i < 0 then -1 else nxt (gre us D (fro h)) i) := hi
  split at hi'
  ·omega
  ·next hc => rw [if_neg hc]
 have nxp : ∀ i, 0 < nxt (gre us D (fro h)) i → nx i = nxt (gre us D (fro h)) i := fun i hi => by
  show (if _ then _ else _) = _
  rw [if_neg (by omega)]
 have hz : ∀ i u, us[i]? = some u → 0 < nx i → ∃ z, z ≤ u.Inlet.toNat ∧ greR us D (fro h) z ≤ 0 := fun i u hu hi => by
  have he := nxe i hi
  obtain ⟨z, z1, z2, _⟩ := Qsn (us := us) D (fro h) i hd.wide hd.st.srt hd.nn (fun x hx => (hd.prt hx).2.1) (by omega)
  have e : inlN us i = u.Inlet.toNat := by unfold inlN; rw [List.getD_eq_getElem?_getD, hu]; rfl
  exact ⟨z, by omega, by omega⟩
 let cost : Nat → Int := Qo6 nx (greR us D (fro h)) us 0 (fun _ => 0)
 have cok := Qyf nx (greR us D (fro h)) us 0 (fun _ => 0)
 have cbd : ∀ k, k < h.length → 0 ≤ cost k ∧ cost k ≤ 1000 := fun k _ => by
  obtain ⟨a1, _, a3⟩ := cok k
  refine ⟨a1, ?_⟩
  rcases a3 with e | ⟨j, u, _, j2, _, j4⟩
  ·show Qo6 _ _ _ _ _ _ ≤ _
   rw [e]
   omega
  ·show Qo6 _ _ _ _ _ _ ≤ _
   rw [j4, nxe _ j2]
   exact hnx _
 have hprice := price_loop (N := N) (h := h) hh cost cbd
 let p : List Int := (List.range' 0 (h.length - 0)).map fun i => cost i - (if i = 0 then 0 else cost (i - 1))
 have hpl : p.length = h.length := by show (List.map _ _).length = _; simp
 have hpg : ∀ k, k < h.length → p.getD k 0 = cost k - (if k = 0 then 0 else cost (k - 1)) := fun k hk' => by
  show (List.map _ _).getD k 0 = _
  rw [List.getD_eq_getElem?_getD, List.getElem?_map, List.getElem?_range' (by omega)]
  simp
 have hdual := hd.dual cost (fun i => kz (greR us D (fro h)) ((us.getD i ⟨0, []⟩).Inlet.toNat)) p hpl (fun i u hu hi => by
   rw [List.getD_eq_getElem?_getD, hu]
   exact kz_ok _ _ (hz i u hu (by rw [nxp i hi]; exact hi)))
  (fun i u hu hi k hk1 hk2 => by
   rw [List.getD_eq_getElem?_getD, hu] at hk1
   have := (cok k).2.1 i u hu (by rw [Nat.zero_add, nxp i hi]; exact hi) hk1
   rw [Nat.zero_add, nxp i hi] at this
   exact this)
  (fun k hk1 => by
   rcases (cok k).2.2 with e | ⟨j, u, j1, j2, j3, j4⟩
   ·exact Or.inl e
   ·rw [Nat.zero_add] at j2 j4
    have he := nxe j j2
    refine Or.inr ⟨j, u, j1, by omega, ?_, j4.trans he⟩
    rw [List.getD_eq_getElem?_getD, j1]
    exact j3) hpg
 have hmb : ∀ m ∈ Qk8 h us D, 0 ≤ m ∧ m ≤ 9223372036854775807 := fun m hm => by
  have hs := hd.share
  unfold Qps at hs
  simp only [Bool.and_eq_true, decide_eq_true_eq] at hs
  have := Qmg hk.ub hs.1.1 hs.1.2 m hm
  omega
 refine ⟨D, p, hd, ?_, hdual.1, hdual.2⟩
 unfold Qf4
 rw [Qpr (by omega), Option.bind_some, hv, Bool.not_true, cond_false, hb, Option.bind_some]
 have hc := Qws (β := List Int × Int × List Int × Int) 8 h.length (by omega) (by omega)
 rw [show ((8 : Nat) : Int) = 8 from rfl] at hc
 rw [hc]
 simp only [Qbr, Int.toNat_natCast, Qt8]
 have a1 := cost_loop (N := N) (h := h) (us := us) hk (by omega) (Qk8 h us D, rw' h.length (greR us D (fro h)), rw' us.length nx) (greR us D (fro h)) nx rfl rfl hz
  (fun y7 => Qdm N h y7 (fun y9 => (Qd4 N (⟨h, us⟩ : GShared) (Qk8 h us D)).bind fun x12 => some (Qk8 h us D, x12, y9, 0)) N ([]) 0 0) N 0 (fun _ => 0) (by omega) (Nat.zero_le _)
 rw [show ((0 : Nat) : Int) = 0 from rfl, List.drop_zero] at a1
 refine Eq.trans a1 ?_
 have a2 := hprice (fun y9 => (Qd4 N (⟨h, us⟩ : GShared) (Qk8 h us D)).bind fun x12 => some (Qk8 h us D, x12, y9, 0)) N 0 [] (by omega) (Nat.zero_le _) rfl
 rw [if_pos rfl, show ((0 : Nat) : Int) = 0 from rfl, List.nil_append] at a2
 refine Eq.trans a2 ?_
 rw [workP_eq (by omega) hul (show (Qk8 h us D).length = us.length from Qlf _ _) hk.ub hmb]
 rfl
end
end Go.Proofs.Ytlhakkkjgdbdpaa
