/-
  Plain laws on heads and units: bounds by prices, and what ProveShare accepts. No conditions.
-/
import Derived.Test.YtlhakkkjgdbdpaaPShb
namespace Go.Proofs.Ytlhakkkjgdbdpaa
open Go.RowKit
section
variable {N : Nat} {h p : List Int} {us : List GUnit}
theorem bp2_loop (cs : Nat → Int) (L : Nat) (hL : (p.length : Int).toNat = L) (K : Int → Option Int) (u : GUnit) (i0 : 0 ≤ u.Inlet) (i1 : u.Inlet < L) (hq : ∀ q ∈ u.Parts, (1 ≤ q.Width ∧ q.Width ≤ 100000) ∧ 0 ≤ q.Gain ∧ q.Gain ≤ 1000) (hl : u.Parts.length ≤ 8) (c0 : 0 ≤ cs u.Inlet.toNat) (c1 : cs u.Inlet.toNat ≤ 6000) : ∀ (n i : Nat) (a : Int), (u.Parts.drop i).length < n → 0 ≤ a → a ≤ 1000000000000 + 100000000 * (i : Int) →
  Qck N p (rw' L cs) K u n a i = K (a + Qi9 (cs u.Inlet.toNat) (u.Parts.drop i)) := by
 intro n
 induction n with
 | zero => intro i _ h; exact absurd h (Nat.not_lt_zero _)
 | succ n ih =>
  intro i a hn a0 a1
  rw [Qck]
  cases hd : u.Parts.drop i with
  | nil =>
   have := Qe4 hd
   simp [show ¬ ((i : Int) < u.Parts.length) from by omega, Qi9]
  | cons q l =>
   obtain ⟨hi, hd', hlt⟩ := Qeb hd
   have hqb := hq q (List.mem_of_getElem? hi)
   have ht := Qv8 (w := q.Width) (g := q.Gain) (c := cs u.Inlet.toNat) (by omega) (by omega) (by omega) (by omega) c0
   have e1 : w64 ((i : Int) + 1) = ((i + 1 : Nat) : Int) := Qa6 (by omega) (by omega)
   have e2 : w64 (q.Gain - cs u.Inlet.toNat) = q.Gain - cs u.Inlet.toNat := Qa6 (by omega) (by omega)
   have e3 : w64 (q.Width * (if q.Gain - cs u.Inlet.toNat > 0 then q.Gain - cs u.Inlet.toNat else 0)) = q.Width * (if q.Gain - cs u.Inlet.toNat > 0 then q.Gain - cs u.Inlet.toNat else 0) := Qa6 (by omega) (by omega)
   have e4 : w64 (a + q.Width * (if q.Gain - cs u.Inlet.toNat > 0 then q.Gain - cs u.Inlet.toNat else 0)) = a + q.Width * (if q.Gain - cs u.Inlet.toNat > 0 then q.Gain - cs u.Inlet.toNat else 0) := Qa6 (by omega) (by omega)
   have d1 : decide (0 ≤ u.Inlet) = true := decide_eq_true i0
   have d2 : decide (u.Inlet.toNat < L) = true := decide_eq_true (by omega)
   rw [show decide ((i : Int) < (u.Parts.length : Int)) = true from by simpa using hlt]
   simp only [cond_true, Qcv hi, Option.bind_some, hL, chk, d1, d2, Bool.and_self, Qg4 cs (by omega : u.Inlet.toNat < L), e1, e2, e3, e4]
   rw [ih (i + 1) _ (by rw [hd']; rw [hd] at hn; simp at hn; omega) (by omega) (by omega), hd', Qi9, Int.add_assoc]
theorem bp1_loop (cs : Nat → Int) (L : Nat) (hL : (p.length : Int).toNat = L) (hN : 300 ≤ N) (K : Int → Option Int) (hul : us.length ≤ 10) (hu : ∀ u ∈ us, Qjx u = true) (hin : ∀ u ∈ us, 0 ≤ u.Inlet ∧ u.Inlet < L) (hc : ∀ k, 0 ≤ cs k ∧ cs k ≤ 6000) (hcp : ∀ k, k < L → cs k = cum p k) : ∀ (n i : Nat) (a : Int), (us.drop i).length < n → 0 ≤ a → a ≤ 100000000000 + 800000000 * (i : Int) →
  Qby N ⟨h, us⟩ p (rw' L cs) K n a i = K (a + Qm4 p (us.drop i)) := by
 intro n
 induction n with
 | zero => intro i _ h; exact absurd h (Nat.not_lt_zero _)
 | succ n ih =>
  intro i a hn a0 a1
  rw [Qby]
  cases hd : us.drop i with
  | nil =>
   have := Qe4 hd
   simp [show ¬ ((i : Int) < us.length) from by omega, Qm4]
  | cons u l =>
   obtain ⟨hi, hd', hlt⟩ := Qeb hd
   have hub := hu u (List.mem_of_getElem? hi)
   have hui := hin u (List.mem_of_getElem? hi)
   have hq := Qlz hub
   have hpl := (Qev hub).2.1.2
   have hcc := hc u.Inlet.toNat
   have hpb := Qse (c := cs u.Inlet.toNat) hcc.1 u.Parts hq
   have e1 : w64 ((i : Int) + 1) = ((i + 1 : Nat) : Int) := Qa6 (by omega) (by omega)
   simp only [Qbr]
   rw [show decide ((i : Int) < (us.length : Int)) = true from by simpa using hlt]
   simp only [cond_true, Qcv hi, Option.bind_some]
   have := bp2_loop (N := N) (p := p) cs L hL (fun y13 => Qby N ⟨h, us⟩ p (rw' L cs) K n y13 (w64 ((i : Int) + 1))) u hui.1 hui.2 hq (by omega) hcc.1 hcc.2 N 0 a (by simp; omega) a0 (by omega)
   rw [show ((0 : Nat) : Int) = 0 from rfl, List.drop_zero] at this
   rw [this, e1, ih (i + 1) _ (by rw [hd']; rw [hd] at hn; simp at hn; omega) (by omega) (by omega), hd', Qm4, hcp _ (by omega), Int.add_assoc]
theorem bp3_loop (K : Int × List Int → Option Int) (hl : p.length = h.length) (hh : h.length ≤ 6) (hm : ∀ x ∈ h, 0 ≤ x ∧ x ≤ 1000000) (hp : ∀ x ∈ p, 0 ≤ x ∧ x ≤ 1000) : ∀ (n k : Nat) (a : Int) (f : Nat → Int), h.length - k < n → k ≤ h.length → 0 ≤ a → a ≤ 6000000000 * (k : Int) → (∀ i, i < k → f i = cum p i) → (k = 0 ∨ 0 < k) →
  ∃ g : Nat → Int, (∀ i, i < h.length → g i = cum p i) ∧
  Qcj N ⟨h, us⟩ p K (rw' h.length (fro h)) n a (if k = 0 then 0 else cum p (k - 1)) k (rw' h.length f) = K (a + Qja h p (h.length - k) k, rw' h.length g) := by
 intro n
 induction n with
 | zero => intro k _ _ h; exact absurd h (Nat.not_lt_zero _)
 | succ n ih =>
  intro k a f hn hk a0 a1 hf _
  rw [Qcj]
  rcases Nat.eq_or_lt_of_le hk with e | hlt
  ·refine ⟨f, fun i hi => hf i (by omega), ?_⟩
   rw [show decide ((k : Int) < (h.length : Int)) = false from decide_eq_false (by omega), e, Nat.sub_self, Qja, Int.add_zero]
   rfl
  ·obtain ⟨x, hx⟩ : ∃ x, p[k]? = some x := ⟨_, List.getElem?_eq_getElem (by omega)⟩
   have hxb := hp x (List.mem_of_getElem? hx)
   have hxd : p.getD k 0 = x := by rw [List.getD_eq_getElem?_getD, hx]; rfl
   have hhb := Qwd hh hm hp k
   rw [hxd] at hhb
   have hs : h.length - k = (h.length - (k + 1)) + 1 := by omega
   have hcb := Qye hp (by omega)
   have ec : (if k = 0 then 0 else cum p (k - 1)) + x = cum p k := by
    cases k with
    | zero => rw [Qs3 hx]; simp
    | succ k => rw [Qs4 hx]; simp
   have c0 : 0 ≤ (if k = 0 then 0 else cum p (k - 1)) ∧ (if k = 0 then 0 else cum p (k - 1)) ≤ 6000 := by
    split
    ·omega
    ·exact hcb _
   have e1 : w64 ((k : Int) + 1) = ((k + 1 : Nat) : Int) := Qa6 (by omega) (by omega)
   have e2 : w64 (x * fro h k) = x * fro h k := Qa6 (by omega) (by omega)
   have e3 : w64 (a + x * fro h k) = a + x * fro h k := Qa6 (by omega) (by omega)
   have e4 : w64 ((if k = 0 then 0 else cum p (k - 1)) + x) = cum p k := by rw [Qa6 (by omega) (by omega), ec]
   have d1 : decide (0 ≤ (k : Int)) = true := decide_eq_true (by omega)
   have d2 : decide (k < h.length) = true := decide_eq_true hlt
   have d3 : decide (k < p.length) = true := decide_eq_true (by omega)
   rw [show decide ((k : Int) < ((h.length : Nat) : Int)) = true from decide_eq_true (by omega)]
   simp only [cond_true, chk, Int.toNat_natCast, d1, d2, d3, Bool.and_self, Qg4 (fro h) hlt, Qg4 f hlt, Option.bind_some, Qcv hx, e1, e2, e3, e4, Qpv]
   obtain ⟨g, g1, g2⟩ := ih (k + 1) (a + x * fro h k) (updN f k (cum p k)) (by omega) hlt (by omega) (by omega) (fun i hi => by
    unfold updN
    by_cases he : i = k
    ·subst he; simp
    ·rw [if_neg he]; exact hf i (by omega)) (Or.inr (by omega))
   refine ⟨g, g1, ?_⟩
   rw [if_neg (by omega), Nat.add_sub_cancel] at g2
   rw [g2, hs, Qja, hxd, Int.add_assoc]
theorem Qsk (hh : h.length ≤ 6) (hm : ∀ x ∈ h, 0 ≤ x ∧ x ≤ 1000000) (hp : ∀ x ∈ p, 0 ≤ x ∧ x ≤ 1000) : ∀ (n k : Nat), 0 ≤ Qja h p n k ∧ Qja h p n k ≤ 6000000000 * (n : Int)
 | 0, _ => by simp [Qja]
 | n + 1, k => by
  have h1 := Qsk hh hm hp n (k + 1)
  have h2 := Qwd hh hm hp k
  simp only [Qja, Int.natCast_add, Int.cast_ofNat_Int]
  omega
theorem boundP_eq (hk : ShOK h us) (hl : p.length = h.length) (hp : ∀ x ∈ p, 0 ≤ x ∧ x ≤ 1000) (hN : 300 ≤ N) : Qfb N ⟨h, us⟩ p = some (Qrf h us p) := by
 have h0 := hk.h0
 have h1 := hk.h1
 unfold Qfb
 rw [room_eq hk.h0 hk.h1 hk.hm hN]
 rw [show (decide (0 ≤ (p.length : Int)) && decide (8 * (p.length : Int) ≤ 281474976710656) && decide ((p.length : Int) ≤ 9223372036854775807)) = true from by rw [decide_eq_true (show 0 ≤ (p.length : Int) from by omega), decide_eq_true (show 8 * (p.length : Int) ≤ 281474976710656 from by omega), decide_eq_true (show (p.length : Int) ≤ 9223372036854775807 from by omega)]; rfl]
 rw [chk, cond_true]
 simp only [Qbr, Option.bind_some, Int.toNat_natCast, hl, Qt8]
 obtain ⟨g, g1, g2⟩ := bp3_loop (N := N) (us := us) (fun x => Qby N ⟨h, us⟩ p x.2 (fun y5 => some y5) N x.1 0) hl hk.h1 hk.hm hp N 0 0 (fun _ => 0) (by omega) (by omega) (Int.le_refl _) (by omega) (fun i hi => by omega) (Or.inl rfl)
 simp only [if_true] at g2
 rw [show ((0 : Nat) : Int) = 0 from rfl, Nat.sub_zero, Int.zero_add] at g2
 refine Eq.trans g2 ?_
 have hb := Qsk hk.h1 hk.hm hp h.length 0
 have e : rw' h.length g = rw' h.length (fun k => if k < h.length then g k else 0) := Qjp fun k hk' => by rw [if_pos hk']
 rw [e]
 have := bp1_loop (N := N) (h := h) (us := us) (p := p) (fun k => if k < h.length then g k else 0) h.length (by omega) hN (fun y5 => some y5) hk.u1 hk.ub (fun u hu => by have := hk.inl u hu; omega) (fun k => by
  split
  ·next hlt => rw [g1 k hlt]; exact Qye hp (by omega) k
  ·omega) (fun k hlt => by rw [if_pos hlt, g1 k hlt]) N 0 (Qja h p h.length 0) (by simp; have := hk.u1; omega) hb.1 (by omega)
 rw [show ((0 : Nat) : Int) = 0 from rfl, List.drop_zero] at this
 rw [this]
 rfl
theorem br3_loop (u : GUnit) (i : Nat) (hu : us[i]? = some u) (i0 : 0 ≤ u.Inlet) (i1 : u.Inlet < p.length) (hp : ∀ x ∈ p, 0 ≤ x ∧ x ≤ 1000) (hl : p.length ≤ 6) (K : Int → Option Int) : ∀ (n k : Nat), p.length - k < n → (k : Int) ≤ u.Inlet + 1 →
  Qd2 N us p i K n (if k = 0 then 0 else cum p (k - 1)) k = K (cum p u.Inlet.toNat) := by
 intro n
 induction n with
 | zero => intro k h; exact absurd h (Nat.not_lt_zero _)
 | succ n ih =>
  intro k hn hk
  rw [Qd2, Qcv hu, Option.bind_some]
  by_cases hc : (k : Int) ≤ u.Inlet
  ·obtain ⟨x, hx⟩ : ∃ x, p[k]? = some x := ⟨_, List.getElem?_eq_getElem (by omega)⟩
   have hxb := hp x (List.mem_of_getElem? hx)
   have hcb := Qye hp hl
   have c0 : 0 ≤ (if k = 0 then 0 else cum p (k - 1)) ∧ (if k = 0 then 0 else cum p (k - 1)) ≤ 6000 := by
    split
    ·omega
    ·exact hcb _
   have ec : (if k = 0 then 0 else cum p (k - 1)) + x = cum p k := by
    cases k with
    | zero => rw [Qs3 hx]; simp
    | succ k => rw [Qs4 hx]; simp
   have e1 : w64 ((k : Int) + 1) = ((k + 1 : Nat) : Int) := Qa6 (by omega) (by omega)
   have e4 : w64 ((if k = 0 then 0 else cum p (k - 1)) + x) = cum p k := by rw [Qa6 (by omega) (by omega), ec]
   rw [show decide ((k : Int) ≤ u.Inlet) = true from decide_eq_true hc, cond_true, Qcv hx, Option.bind_some, e1, e4]
   have := ih (k + 1) (by omega) (by omega)
   rw [if_neg (by omega), Nat.add_sub_cancel] at this
   exact this
  ·rw [show decide ((k : Int) ≤ u.Inlet) = false from decide_eq_false hc, cond_false, if_neg (by omega), show k - 1 = u.Inlet.toNat from by omega]
theorem br2_loop (u : GUnit) (i : Nat) (hu : us[i]? = some u) (c : Int) (K : Int → Option Int) (hq : ∀ q ∈ u.Parts, (1 ≤ q.Width ∧ q.Width ≤ 100000) ∧ 0 ≤ q.Gain ∧ q.Gain ≤ 1000) (hl : u.Parts.length ≤ 8) (c0 : 0 ≤ c) (c1 : c ≤ 6000) : ∀ (n j : Nat) (a : Int), (u.Parts.drop j).length < n → 0 ≤ a → a ≤ 1000000000000 + 100000000 * (j : Int) →
  Qd3 N us i K c n a j = K (a + Qi9 c (u.Parts.drop j)) := by
 intro n
 induction n with
 | zero => intro i _ h; exact absurd h (Nat.not_lt_zero _)
 | succ n ih =>
  intro j a hn a0 a1
  rw [Qd3, Qcv hu, Option.bind_some]
  cases hd : u.Parts.drop j with
  | nil =>
   have := Qe4 hd
   simp [show ¬ ((j : Int) < u.Parts.length) from by omega, Qi9]
  | cons q l =>
   obtain ⟨hi, hd', hlt⟩ := Qeb hd
   have hqb := hq q (List.mem_of_getElem? hi)
   have ht := Qv8 (w := q.Width) (g := q.Gain) (c := c) (by omega) (by omega) (by omega) (by omega) c0
   have e1 : w64 ((j : Int) + 1) = ((j + 1 : Nat) : Int) := Qa6 (by omega) (by omega)
   have e2 : w64 (q.Gain - c) = q.Gain - c := Qa6 (by omega) (by omega)
   have e3 : w64 (q.Width * (if q.Gain - c > 0 then q.Gain - c else 0)) = q.Width * (if q.Gain - c > 0 then q.Gain - c else 0) := Qa6 (by omega) (by omega)
   have e4 : w64 (a + q.Width * (if q.Gain - c > 0 then q.Gain - c else 0)) = a + q.Width * (if q.Gain - c > 0 then q.Gain - c else 0) := Qa6 (by omega) (by omega)
   rw [show decide ((j : Int) < (u.Parts.length : Int)) = true from by simpa using hlt]
   simp only [cond_true, Qcv hi, Option.bind_some, e1, e2, e3, e4]
   rw [ih (j + 1) _ (by rw [hd']; rw [hd] at hn; simp at hn; omega) (by omega) (by omega), hd', Qi9, Int.add_assoc]
theorem br1_loop (hk : ShOK h us) (hl : p.length = h.length) (hp : ∀ x ∈ p, 0 ≤ x ∧ x ≤ 1000) (hN : 300 ≤ N) (K : Int → Option Int) : ∀ (n i : Nat) (a : Int), (us.drop i).length < n → 0 ≤ a → a ≤ 100000000000 + 800000000 * (i : Int) →
  Qc6 N us p K n a i = K (a + Qm4 p (us.drop i)) := by
 have hh := hk.h1
 have hul := hk.u1
 intro n
 induction n with
 | zero => intro i _ h; exact absurd h (Nat.not_lt_zero _)
 | succ n ih =>
  intro i a hn a0 a1
  rw [Qc6]
  cases hd : us.drop i with
  | nil =>
   have := Qe4 hd
   simp [show ¬ ((i : Int) < us.length) from by omega, Qm4]
  | cons u l =>
   obtain ⟨hi, hd', hlt⟩ := Qeb hd
   have hub := hk.ub u (List.mem_of_getElem? hi)
   have hui := hk.inl u (List.mem_of_getElem? hi)
   have hq := Qlz hub
   have hpl := (Qev hub).2.1.2
   have hcc := Qye hp (by omega) u.Inlet.toNat
   have hpb := Qse (c := cum p u.Inlet.toNat) hcc.1 u.Parts hq
   have e1 : w64 ((i : Int) + 1) = ((i + 1 : Nat) : Int) := Qa6 (by omega) (by omega)
   simp only [Qbr]
   rw [show decide ((i : Int) < (us.length : Int)) = true from by simpa using hlt, cond_true]
   have t3 := fun K' => br3_loop (N := N) (us := us) (p := p) u i hi hui.1 (by omega) hp (by omega) K' N 0 (by omega) (by omega)
   simp only [if_true] at t3
   rw [show ((0 : Nat) : Int) = 0 from rfl] at t3
   rw [t3]
   have t2 := br2_loop (N := N) u i hi (cum p u.Inlet.toNat) (fun y11 => Qc6 N us p K n y11 (w64 ((i : Int) + 1))) hq (by omega) hcc.1 hcc.2 N 0 a (by simp; omega) a0 (by omega)
   rw [show ((0 : Nat) : Int) = 0 from rfl, List.drop_zero] at t2
   rw [t2, e1, ih (i + 1) _ (by rw [hd']; rw [hd] at hn; simp at hn; omega) (by omega) (by omega), hd', Qm4, Int.add_assoc]
theorem br4_loop (hk : ShOK h us) (hl : p.length = h.length) (hp : ∀ x ∈ p, 0 ≤ x ∧ x ≤ 1000) (hN : 300 ≤ N) (K : Int → Option Int) : ∀ (n k : Nat) (a : Int), h.length - k < n → k ≤ h.length → 0 ≤ a → a ≤ 6000000000 * (k : Int) →
  Qd1 N h K p n a k = K (a + Qja h p (h.length - k) k) := by
 have hh := hk.h1
 intro n
 induction n with
 | zero => intro i _ h; exact absurd h (Nat.not_lt_zero _)
 | succ n ih =>
  intro k a hn hk' a0 a1
  rw [Qd1]
  rcases Nat.eq_or_lt_of_le hk' with e | hlt
  ·rw [show decide ((k : Int) < (h.length : Int)) = false from decide_eq_false (by omega), e, Nat.sub_self, Qja, Int.add_zero]
   rfl
  ·obtain ⟨x, hx⟩ : ∃ x, p[k]? = some x := ⟨_, List.getElem?_eq_getElem (by omega)⟩
   have hxd : p.getD k 0 = x := by rw [List.getD_eq_getElem?_getD, hx]; rfl
   have hhb := Qwd hh hk.hm hp k
   rw [hxd] at hhb
   have hs : h.length - k = (h.length - (k + 1)) + 1 := by omega
   have e1 : w64 ((k : Int) + 1) = ((k + 1 : Nat) : Int) := Qa6 (by omega) (by omega)
   have e2 : w64 (x * fro h k) = x * fro h k := Qa6 (by omega) (by omega)
   have e3 : w64 (a + x * fro h k) = a + x * fro h k := Qa6 (by omega) (by omega)
   rw [show decide ((k : Int) < (h.length : Int)) = true from decide_eq_true (by omega)]
   simp only [cond_true, Qcv hx, Option.bind_some, Qwg hh hk.hm hN k, e1, e2, e3]
   rw [ih (k + 1) _ (by omega) hlt (by omega) (by omega), hs, Qja, hxd, Int.add_assoc]
theorem Qu1 (hk : ShOK h us) (hl : p.length = h.length) (hp : ∀ x ∈ p, 0 ≤ x ∧ x ≤ 1000) (hN : 300 ≤ N) : Qhj N h us p = some (Qrf h us p) := by
 have hh := hk.h1
 have hul := hk.u1
 unfold Qhj
 simp only [Qbr]
 have a1 := br4_loop (N := N) hk hl hp hN (fun y1 => Qc6 N us p (fun y3 => some y3) N y1 0) N 0 0 (by omega) (by omega) (Int.le_refl _) (by omega)
 rw [show ((0 : Nat) : Int) = 0 from rfl, Nat.sub_zero, Int.zero_add] at a1
 rw [a1]
 have hb := Qsk hk.h1 hk.hm hp h.length 0
 have a2 := br1_loop (N := N) hk hl hp hN (fun y3 => some y3) N 0 (Qja h p h.length 0) (by simp; omega) hb.1 (by omega)
 rw [show ((0 : Nat) : Int) = 0 from rfl, List.drop_zero] at a2
 rw [a2]
 rfl
theorem Qp0 (hB : Qko h p = true) : p.length = h.length ∧ ∀ x ∈ p, 0 ≤ x ∧ x ≤ 1000 := by
 unfold Qko at hB
 simp only [Bool.and_eq_true, decide_eq_true_eq, List.all_eq_true] at hB
 exact ⟨hB.1, fun x hx => Qfu.1 (hB.2 x hx)⟩
theorem bound_eq (hN : 300 ≤ N) : Qiv N h us p = some (bif Qjn h us && Qko h p then (Qrf h us p, 0) else (0, 1)) := by
 unfold Qiv
 rw [Qpr hN, Option.bind_some]
 cases hv : Qjn h us with
 | false => rfl
 | true =>
  have hk := shOK hv
  rw [Bool.not_true, cond_false, priced_eq hk.h1 hN, Option.bind_some]
  cases hp : Qko h p with
  | false => rfl
  | true =>
   obtain ⟨h1, h2⟩ := Qp0 hp
   rw [Bool.not_true, cond_false, boundP_eq hk h1 h2 hN]
   rfl
def minI (f : Nat → Int) : Nat → Int
 | 0 => f 0
 | c + 1 => if f (c + 1) < minI f c then f (c + 1) else minI f c
theorem minI_le (f : Nat → Int) : ∀ (c k : Nat), k ≤ c → minI f c ≤ f k
 | 0, k, h => by rw [show k = 0 from by omega]; exact Int.le_refl _
 | c + 1, k, h => by
  rw [minI]
  rcases Nat.eq_or_lt_of_le h with rfl | hlt
  ·split <;> omega
  ·have := minI_le f c k (by omega)
   split <;> omega
theorem Qsh (f : Nat → Int) : ∀ c : Nat, ∃ k, k ≤ c ∧ minI f c = f k
 | 0 => ⟨0, Nat.le_refl _, rfl⟩
 | c + 1 => by
  rw [minI]
  split
  ·exact ⟨c + 1, Nat.le_refl _, rfl⟩
  ·obtain ⟨k, h1, h2⟩ := Qsh f c
   exact ⟨k, by omega, h2⟩
theorem min1_loop (c L : Nat) (f : Nat → Int) (hc : c ≤ L) (hL : L ≤ 6) (K : Int → Option Int) : ∀ (n i : Nat), c - i < n → 1 ≤ i → i ≤ c →
  Qb6 N c (rw' L f) K n (minI f (i - 1)) i = K (minI f (c - 1)) := by
 intro n
 induction n with
 | zero => intro i h; exact absurd h (Nat.not_lt_zero _)
 | succ n ih =>
  intro i hn h1 h2
  rw [Qb6]
  rcases Nat.eq_or_lt_of_le h2 with e | hlt
  ·rw [show decide ((i : Int) < ((c : Nat) : Int)) = false from decide_eq_false (by omega), cond_false, e]
  ·have e1 : w64 ((i : Int) + 1) = ((i + 1 : Nat) : Int) := Qa6 (by omega) (by omega)
   have d1 : decide (0 ≤ (i : Int)) = true := decide_eq_true (by omega)
   have d2 : decide (i < c) = true := decide_eq_true hlt
   rw [show decide ((i : Int) < ((c : Nat) : Int)) = true from decide_eq_true (by omega)]
   simp only [cond_true, chk, Int.toNat_natCast, d1, d2, Bool.and_self, Qg4 f (by omega : i < L), Option.bind_some, e1]
   have := ih (i + 1) (by omega) (by omega) hlt
   obtain ⟨j, rfl⟩ : ∃ j, i = j + 1 := ⟨i - 1, by omega⟩
   rw [Nat.add_sub_cancel] at this ⊢
   rw [minI] at this
   exact this
theorem min1_eq {c L : Nat} (f : Nat → Int) (h1 : 1 ≤ c) (hc : c ≤ L) (hL : L ≤ 6) (hN : 300 ≤ N) : Qem N c (rw' L f) = some (minI f (c - 1)) := by
 unfold Qem
 have d1 : decide ((0 : Nat) ≤ 0) = true := rfl
 have d2 : decide (0 < c) = true := decide_eq_true (by omega)
 rw [show decide (((c : Nat) : Int) < 1) = false from decide_eq_false (by omega)]
 simp only [Qbr, cond_false, chk]
 rw [show (0 : Int).toNat = 0 from rfl]
 simp only [d1, d2, Bool.and_self, cond_true, Qg4 f (by omega : 0 < L), Option.bind_some]
 have := min1_loop (N := N) c L f hc hL (fun y => some y) N 1 (by omega) (Nat.le_refl _) h1
 exact this
end
end Go.Proofs.Ytlhakkkjgdbdpaa
