/-
  Plain laws of sharing steam: sums over units, no sharing has more work than a bound, and what is taken has as much as its prices' bound. No conditions.
-/
import Derived.Test.YtlhakkkjgdbdpaaPGre
namespace Go.Proofs.Ytlhakkkjgdbdpaa
open Go.RowKit
def wF (f : Nat → Int) : List GUnit → Nat → Int
 | [], _ => 0
 | u :: us, i => powI u.Parts (f i) + wF f us (i + 1)
def uF (f : Nat → Int) (k : Nat) : List GUnit → Nat → Int
 | [], _ => 0
 | u :: us, i => (if (k : Int) ≤ u.Inlet then f i else 0) + uF f k us (i + 1)
theorem wF_eq (f : Nat → Int) : ∀ (us : List GUnit) (i : Nat), Qj8 us ((List.range' i us.length).map f) = wF f us i
 | [], _ => rfl
 | u :: us, i => by rw [List.length_cons, List.range'_succ, List.map_cons, Qj8, wF, wF_eq f us]
theorem uF_eq (f : Nat → Int) (k : Nat) : ∀ (us : List GUnit) (i : Nat), useI us ((List.range' i us.length).map f) k = uF f k us i
 | [], _ => rfl
 | u :: us, i => by rw [List.length_cons, List.range'_succ, List.map_cons, useI, uF, uF_eq f k us]
theorem uF_add (f g : Nat → Int) (k : Nat) : ∀ (us : List GUnit) (i : Nat), uF (fun j => f j + g j) k us i = uF f k us i + uF g k us i
 | [], _ => rfl
 | u :: us, i => by
  rw [uF, uF, uF, uF_add f g k us]
  split <;> omega
theorem uF_out (k : Nat) (j : Nat) (m : Int) : ∀ (us : List GUnit) (i : Nat), (j < i ∨ i + us.length ≤ j) → uF (fun l => if j = l then m else 0) k us i = 0
 | [], _, _ => rfl
 | u :: us, i, h => by
  rw [uF, uF_out k j m us (i + 1) (by simp at h; omega), if_neg (show ¬ j = i from by simp at h; omega)]
  split <;> rfl
theorem uF_at (k : Nat) (j : Nat) (m : Int) : ∀ (us : List GUnit) (i : Nat) (u : GUnit), i ≤ j → us[j - i]? = some u → uF (fun l => if j = l then m else 0) k us i = if (k : Int) ≤ u.Inlet then m else 0
 | [], _, _, _, h => by simp at h
 | v :: us, i, u, hi, h => by
  rw [uF]
  rcases Nat.eq_or_lt_of_le hi with rfl | hlt
  ·rw [Nat.sub_self] at h
   simp at h
   subst h
   rw [uF_out k i m us (i + 1) (Or.inl (Nat.lt_succ_self _)), if_pos rfl, Int.add_zero]
  ·rw [if_neg (show ¬ j = i from by omega)]
   have h' : us[j - (i + 1)]? = some u := by
    rw [show j - i = (j - (i + 1)) + 1 from by omega] at h
    simpa using h
   rw [uF_at k j m us (i + 1) u hlt h']
   split <;> simp
def InU (us : List GUnit) (T : List (GPiece × Int)) : Prop := ∀ q ∈ T, ∃ u, us[q.1.unit.toNat]? = some u ∧ 0 ≤ u.Inlet
theorem use_T (us : List GUnit) (k : Nat) : ∀ (T : List (GPiece × Int)), InU us T → uF (Qom T) k us 0 = useT us T k
 | [], _ => by
  have : ∀ (us : List GUnit) (i : Nat), uF (Qom []) k us i = 0 := by
   intro us
   induction us with
   | nil => intro i; rfl
   | cons u us ih => intro i; rw [uF, ih]; split <;> rfl
  exact this us 0
 | q :: T, h => by
  obtain ⟨u, h1, h2⟩ := h q (List.mem_cons_self ..)
  have ih := use_T us k T fun x hx => h x (List.mem_cons_of_mem _ hx)
  have e : Qom (q :: T) = fun j => (if q.1.unit.toNat = j then q.2 else 0) + Qom T j := by funext j; rfl
  rw [e, uF_add, uF_at k q.1.unit.toNat q.2 us 0 u (Nat.zero_le _) (by simpa using h1), ih, useT]
  have hin : inl us q.1 = u.Inlet.toNat := by unfold inl; rw [List.getD_eq_getElem?_getD, h1]; rfl
  rw [hin]
  by_cases hc : (k : Int) ≤ u.Inlet
  ·rw [if_pos hc, if_pos (by omega)]
  ·rw [if_neg hc, if_neg (by omega)]
def hS (F : Nat → Int) (p : List Int) : Nat → Nat → Int
 | 0, _ => 0
 | n + 1, k => p.getD k 0 * F k + hS F p n (k + 1)
theorem Qx2 (h p : List Int) : ∀ (n k : Nat), Qja h p n k = hS (fro h) p n k
 | 0, _ => rfl
 | n + 1, k => by rw [Qja, hS, Qx2 h p n]
theorem hS_add (F G : Nat → Int) (p : List Int) : ∀ (n k : Nat), hS (fun i => F i + G i) p n k = hS F p n k + hS G p n k
 | 0, _ => rfl
 | n + 1, k => by rw [hS, hS, hS, hS_add F G p n, Int.mul_add]; omega
theorem hS_ext {F G : Nat → Int} {p : List Int} : ∀ (n k : Nat), (∀ i, k ≤ i → i < k + n → p.getD i 0 * F i = p.getD i 0 * G i) → hS F p n k = hS G p n k
 | 0, _, _ => rfl
 | n + 1, k, h => by
  rw [hS, hS, h k (Nat.le_refl _) (by omega), hS_ext n (k + 1) fun i h1 h2 => h i (by omega) (by omega)]
theorem hS_ind (p : List Int) (m : Int) (c : Int) : ∀ (n k : Nat), k + n = p.length → c < p.length → hS (fun i => if (i : Int) ≤ c then m else 0) p n k = m * ((p.drop k).take (c + 1 - k).toNat).sum
 | 0, k, hk, hc => by
  rw [show (c + 1 - (k : Int)).toNat = 0 from by omega]
  simp [hS]
 | n + 1, k, hk, hc => by
  obtain ⟨x, hx⟩ : ∃ x, p[k]? = some x := ⟨_, List.getElem?_eq_getElem (by omega)⟩
  have hxd : p.getD k 0 = x := by rw [List.getD_eq_getElem?_getD, hx]; rfl
  rw [hS, hS_ind p m c n (k + 1) (by omega) hc, hxd, Qfn hx]
  by_cases h : (k : Int) ≤ c
  ·rw [if_pos h, show (c + 1 - (k : Int)).toNat = (c + 1 - ((k + 1 : Nat) : Int)).toNat + 1 from by omega, List.take_succ_cons, List.sum_cons, Int.mul_add, Int.mul_comm x m]
  ·rw [if_neg h, show (c + 1 - (k : Int)).toNat = 0 from by omega, show (c + 1 - ((k + 1 : Nat) : Int)).toNat = 0 from by omega]
   simp
def dF (f : Nat → Int) (p : List Int) : List GUnit → Nat → Int
 | [], _ => 0
 | u :: us, i => f i * cum p u.Inlet.toNat + dF f p us (i + 1)
theorem hS_use (f : Nat → Int) (p : List Int) : ∀ (us : List GUnit) (i : Nat), (∀ u ∈ us, 0 ≤ u.Inlet ∧ u.Inlet < p.length) → hS (fun k => uF f k us i) p p.length 0 = dF f p us i
 | [], _, _ => by
  have : ∀ n k, hS (fun _ => 0) p n k = 0 := by
   intro n
   induction n with
   | zero => intro k; rfl
   | succ n ih => intro k; rw [hS, ih]; simp
  exact this _ _
 | u :: us, i, h => by
  have hu := h u (List.mem_cons_self ..)
  have e : (fun k => uF f k (u :: us) i) = fun k : Nat => (if (k : Int) ≤ u.Inlet then f i else 0) + uF f k us (i + 1) := by funext k; rfl
  rw [e, hS_add, hS_use f p us (i + 1) (fun x hx => h x (List.mem_cons_of_mem _ hx)), hS_ind p (f i) u.Inlet p.length 0 (by omega) hu.2, dF]
  unfold cum
  rw [List.drop_zero, show (u.Inlet + 1 - ((0 : Nat) : Int)).toNat = u.Inlet.toNat + 1 from by omega]
theorem Qus {c : Int} : ∀ (l : List (GPart × Int)), (∀ q ∈ l, (c < q.1.Gain → q.2 = q.1.Width) ∧ (0 < q.2 → c ≤ q.1.Gain) ∧ 0 ≤ q.2) → Qi9 c (l.map (·.1)) + sumM l * c = sumG l
 | [], _ => by simp [Qi9, sumM, sumG]
 | q :: l, h => by
  have ih := Qus l fun x hx => h x (List.mem_cons_of_mem _ hx)
  obtain ⟨h1, h2, h3⟩ := h q (List.mem_cons_self ..)
  rw [List.map_cons, Qi9, sumM, sumG, Int.add_mul]
  have key : q.1.Width * (if q.1.Gain - c > 0 then q.1.Gain - c else 0) + q.2 * c = q.2 * q.1.Gain := by
   split
   ·next hg =>
    rw [h1 (by omega), Int.mul_sub]
    omega
   ·next hg =>
    rw [Int.mul_zero, Int.zero_add]
    rcases Int.lt_or_le 0 q.2 with h4 | h4
    ·rw [show c = q.1.Gain from by have := h2 h4; omega]
    ·rw [show q.2 = 0 from by omega, Int.zero_mul, Int.zero_mul]
  omega
theorem Qx9 : ∀ (l : List (GPart × Int)), (∀ q ∈ l, 0 ≤ q.2 ∧ q.2 ≤ q.1.Width) → 0 ≤ sumM l ∧ sumM l ≤ capI (l.map (·.1))
 | [], _ => ⟨Int.le_refl _, Int.le_refl _⟩
 | q :: l, h => by
  have ih := Qx9 l fun x hx => h x (List.mem_cons_of_mem _ hx)
  have := h q (List.mem_cons_self ..)
  rw [List.map_cons, sumM, capI]
  omega
theorem Qsc {T : List (GPiece × Int)} {i : Nat} {x : GPart × Int} (h : x ∈ recU T i) : ∃ q ∈ T, q.1.unit.toNat = i ∧ x = (q.1.Part, q.2) := by
 unfold recU at h
 obtain ⟨q, hq, rfl⟩ := List.mem_map.1 h
 have := List.mem_filter.1 hq
 exact ⟨q, this.1, by simpa using this.2, rfl⟩
section
variable {h : List Int} {us : List GUnit} {D : List GPiece}
structure DOK (h : List Int) (us : List GUnit) (D : List GPiece) : Prop where
 k : ShOK h us
 st : Stb (Qda 0 us) D
theorem DOK.mem (hd : DOK h us D) {p : GPiece} (hp : p ∈ D) : ∃ (i : Nat) (u : GUnit), us[i]? = some u ∧ p.unit = (i : Int) ∧ p.Part ∈ u.Parts := by
 obtain ⟨i, u, h1, h2, h3⟩ := Qia us 0 p ((Stb.mem hd.st.eqf).1 hp)
 exact ⟨i, u, h1, by simpa using h2, h3⟩
theorem DOK.prt (hd : DOK h us D) {p : GPiece} (hp : p ∈ D) : (1 ≤ p.Part.Width ∧ p.Part.Width ≤ 100000) ∧ 0 ≤ p.Part.Gain ∧ p.Part.Gain ≤ 1000 := by
 obtain ⟨i, u, h1, _, h3⟩ := hd.mem hp
 exact Qlz (hd.k.ub u (List.mem_of_getElem? h1)) p.Part h3
theorem DOK.wide (hd : DOK h us D) : Wide D := fun _ hp => (hd.prt hp).1.1
theorem DOK.nn (hd : DOK h us D) (k : Nat) : 0 ≤ fro h k := (Qur hd.k.h1 hd.k.hm k).1
theorem DOK.inU (hd : DOK h us D) : InU us (gre us D (fro h)) := fun q hq => by
 obtain ⟨i, u, h1, h2, _⟩ := hd.mem (Qm7 D (fro h) hd.wide hd.nn q hq).1
 exact ⟨u, by rw [h2]; simpa using h1, (hd.k.inl u (List.mem_of_getElem? h1)).1⟩
theorem DOK.parts (hd : DOK h us D) {i : Nat} {u : GUnit} (hu : us[i]? = some u) : (recU (gre us D (fro h)) i).map (·.1) = u.Parts := by
 rw [recU_fst, gre_fst]
 have e := Qnw us 0 i u hu
 rw [Nat.zero_add] at e
 have hs := Qya u.Parts 1000 ((i : Nat) : Int) (Qev (hd.k.ub u (List.mem_of_getElem? hu))).2.2
 rw [Qwh hd.st _ (by rw [e]; exact hs.1), e, List.map_map]
 exact (List.map_congr_left (fun _ _ => rfl)).trans (List.map_id _)
def Qm3 (h : List Int) (us : List GUnit) (D : List GPiece) : Nat → Int := Qom (gre us D (fro h))
theorem DOK.pow (hd : DOK h us D) {i : Nat} {u : GUnit} (hu : us[i]? = some u) : powI u.Parts (Qm3 h us D i) = sumG (recU (gre us D (fro h)) i) := by
 have h1 := Qx8 (recU (gre us D (fro h)) i) (Qx4 D (fro h) i hd.wide hd.nn) (fun x hx => by
  obtain ⟨q, hq, _, rfl⟩ := Qsc hx
  exact (hd.prt (Qm7 D (fro h) hd.wide hd.nn q hq).1).1.1)
 rw [hd.parts hu, Qpb] at h1
 exact h1
theorem DOK.cap (hd : DOK h us D) {i : Nat} {u : GUnit} (hu : us[i]? = some u) : 0 ≤ Qm3 h us D i ∧ Qm3 h us D i ≤ capI u.Parts := by
 have h1 := Qx9 (recU (gre us D (fro h)) i) (fun x hx => by
  obtain ⟨q, hq, _, rfl⟩ := Qsc hx
  exact (Qm7 D (fro h) hd.wide hd.nn q hq).2)
 rw [hd.parts hu, Qpb] at h1
 exact h1
def Qk8 (h : List Int) (us : List GUnit) (D : List GPiece) : List Int := rw' us.length (Qm3 h us D)
theorem Qqa : Qk8 h us D = (List.range' 0 us.length).map (Qm3 h us D) := by unfold Qk8 rw'; rw [List.range_eq_range']
theorem Qyi (f : Nat → Int) : ∀ (us : List GUnit) (i : Nat), (∀ j u, us[j]? = some u → 0 ≤ f (i + j) ∧ f (i + j) ≤ capI u.Parts) → Qqw us ((List.range' i us.length).map f) = true
 | [], _, _ => rfl
 | u :: us, i, h => by
  rw [List.length_cons, List.range'_succ, List.map_cons, Qqw, Qyi f us (i + 1) (fun j v hv => by
   have := h (j + 1) v (by simpa using hv)
   rwa [show i + (j + 1) = i + 1 + j from by omega] at this), Bool.and_true]
  exact Qfu.2 (h 0 u rfl)
theorem DOK.share (hd : DOK h us D) : Qps h us (Qk8 h us D) = true := by
 unfold Qps
 rw [Qqa, Qyi (Qm3 h us D) us 0 (fun j u hu => by rw [Nat.zero_add]; exact hd.cap hu)]
 simp only [List.length_map, List.length_range', decide_true, Bool.true_and, List.all_eq_true, decide_eq_true_eq]
 intro k _
 rw [uF_eq]
 unfold Qm3
 rw [use_T us k _ hd.inU]
 have h1 := Qsp (us := us) D (fro h) k
 have h2 := (Qop (us := us) D (fro h) hd.wide hd.nn k).1
 omega
theorem DOK.dual (hd : DOK h us D) (cost : Nat → Int) (k0 : Nat → Nat) (p : List Int) (hpl : p.length = h.length)
  (hk0 : ∀ i u, us[i]? = some u → 0 < nxt (gre us D (fro h)) i → k0 i ≤ u.Inlet.toNat ∧ greR us D (fro h) (k0 i) ≤ 0 ∧ ∀ k, k0 i < k → k ≤ u.Inlet.toNat → 0 < greR us D (fro h) k)
  (c1 : ∀ i u, us[i]? = some u → 0 < nxt (gre us D (fro h)) i → ∀ k, k0 i ≤ k → k < h.length → nxt (gre us D (fro h)) i ≤ cost k)
  (c2 : ∀ k, k < h.length → cost k = 0 ∨ ∃ i u, us[i]? = some u ∧ 0 < nxt (gre us D (fro h)) i ∧ k0 i ≤ k ∧ cost k = nxt (gre us D (fro h)) i)
  (hp : ∀ k, k < h.length → p.getD k 0 = cost k - (if k = 0 then 0 else cost (k - 1))) :
  Qko h p = true ∧ Qrf h us p = Qj8 us (Qk8 h us D) := by
 have h6 := hd.k.h1
 have hnx : ∀ i, nxt (gre us D (fro h)) i ≤ 1000 := fun i => by
  rcases Qsf (T := gre us D (fro h)) (i := i) with e | ⟨q, q1, _, q3⟩
  ·omega
  ·have := (hd.prt (Qm7 D (fro h) hd.wide hd.nn q q1).1).2.2
   omega
 have cnn : ∀ k, k < h.length → 0 ≤ cost k ∧ cost k ≤ 1000 := fun k hk => by
  rcases c2 k hk with e | ⟨i, u, _, i2, _, i4⟩
  ·omega
  ·have := hnx i
   omega
 have cmono : ∀ k, k + 1 < h.length → cost k ≤ cost (k + 1) := fun k hk => by
  rcases c2 k (by omega) with e | ⟨i, u, i1, i2, i3, i4⟩
  ·have := cnn (k + 1) hk
   omega
  ·have := c1 i u i1 i2 (k + 1) (by omega) hk
   omega
 have hcum : ∀ k, k < h.length → cum p k = cost k := by
  intro k
  induction k with
  | zero =>
   intro hk
   obtain ⟨x, hx⟩ : ∃ x, p[0]? = some x := ⟨_, List.getElem?_eq_getElem (by omega)⟩
   have := hp 0 hk
   rw [List.getD_eq_getElem?_getD, hx, if_pos rfl] at this
   rw [Qs3 hx]
   simpa using this
  | succ k ih =>
   intro hk
   obtain ⟨x, hx⟩ : ∃ x, p[k + 1]? = some x := ⟨_, List.getElem?_eq_getElem (by omega)⟩
   have := hp (k + 1) hk
   rw [List.getD_eq_getElem?_getD, hx, if_neg (by omega), Nat.add_sub_cancel] at this
   rw [Qs4 hx, ih (by omega)]
   simp only [Option.getD_some] at this
   omega
 have pnn : ∀ k, k < h.length → 0 ≤ p.getD k 0 ∧ p.getD k 0 ≤ 1000 := fun k hk => by
  have h1 := hp k hk
  have h2 := cnn k hk
  cases k with
  | zero => rw [if_pos rfl] at h1; omega
  | succ k =>
   rw [if_neg (by omega), Nat.add_sub_cancel] at h1
   have := cmono k hk
   have := cnn k (by omega)
   omega
 have hpr : Qko h p = true := by
  unfold Qko
  rw [Bool.and_eq_true, decide_eq_true_eq, List.all_eq_true]
  refine ⟨hpl, fun x hx => ?_⟩
  obtain ⟨k, hk⟩ := List.getElem?_of_mem hx
  have hlt := (List.getElem?_eq_some_iff.1 hk).1
  have := pnn k (by omega)
  rw [List.getD_eq_getElem?_getD, hk] at this
  exact Qfu.2 this
 refine ⟨hpr, ?_⟩
 have zero : ∀ k, k < h.length → 0 < p.getD k 0 → greR us D (fro h) k = 0 := fun k hk hpos => by
  have h1 := hp k hk
  have hrn := (Qop (us := us) D (fro h) hd.wide hd.nn k).1
  rcases c2 k hk with e | ⟨i, u, i1, i2, i3, i4⟩
  ·exfalso
   cases k with
   | zero => rw [if_pos rfl] at h1; omega
   | succ k =>
    rw [if_neg (by omega), Nat.add_sub_cancel] at h1
    have := cnn k (by omega)
    omega
  ·rcases Nat.eq_or_lt_of_le i3 with e | hlt
   ·have := (hk0 i u i1 i2).2.1
    rw [e] at this
    omega
   ·exfalso
    cases k with
    | zero => omega
    | succ k =>
     rw [if_neg (by omega), Nat.add_sub_cancel] at h1
     have := c1 i u i1 i2 k (by omega) (by omega)
     omega
 have e1 : hS (fro h) p p.length 0 = hS (fun k => uF (Qm3 h us D) k us 0) p p.length 0 := hS_ext _ _ fun k _ hk => by
  unfold Qm3
  rw [use_T us k _ hd.inU]
  have h1 := Qsp (us := us) D (fro h) k
  rcases Int.lt_or_le 0 (p.getD k 0) with hpos | hle
  ·have := zero k (by omega) hpos
   rw [show useT us (gre us D (fro h)) k = fro h k from by omega]
  ·have := pnn k (by omega)
   rw [show p.getD k 0 = 0 from by omega, Int.zero_mul, Int.zero_mul]
 have e2 := hS_use (Qm3 h us D) p us 0 (fun u hu => by have := hd.k.inl u hu; omega)
 unfold Qrf
 rw [Qx2, ← hpl, e1, e2, Qqa, wF_eq]
 have unit : ∀ i u, us[i]? = some u → Qi9 (cum p u.Inlet.toNat) u.Parts + Qm3 h us D i * cum p u.Inlet.toNat = powI u.Parts (Qm3 h us D i) := fun i u hu => by
  have hin := hd.k.inl u (List.mem_of_getElem? hu)
  have hil : u.Inlet.toNat < h.length := by omega
  rw [hd.pow hu]
  have h1 := Qus (c := cum p u.Inlet.toNat) (recU (gre us D (fro h)) i) (fun x hx => by
   obtain ⟨q, hq, hqu, rfl⟩ := Qsc hx
   have hb := Qm7 D (fro h) hd.wide hd.nn q hq
   have hprt := hd.prt hb.1
   have hiq : inl us q.1 = u.Inlet.toNat := by unfold inl; rw [hqu, List.getD_eq_getElem?_getD, hu]; rfl
   rw [hcum _ hil]
   dsimp only
   refine ⟨fun hg => ?_, fun hm => ?_, hb.2.1⟩
   ·rcases Int.lt_or_le q.2 q.1.Part.Width with hlt | hge
    ·exfalso
     have h2 := Qx3 (us := us) D (fro h) hd.wide hd.st.srt hd.nn q hq hlt
     rw [hqu] at h2
     have h3 := cnn _ hil
     have := c1 i u hu (by omega) u.Inlet.toNat (hk0 i u hu (by omega)).1 hil
     omega
    ·have := hb.2.2
     omega
   ·rcases Int.lt_or_le q.1.Part.Gain (cost u.Inlet.toNat) with hlt | hge
    ·exfalso
     rcases c2 _ hil with e | ⟨j, v, j1, j2, j3, j4⟩
     ·omega
     ·obtain ⟨z, z1, z2, z3⟩ := Qsn (us := us) D (fro h) j hd.wide hd.st.srt hd.nn (fun x hx => (hd.prt hx).2.1) (by omega)
      have h4 := z3 q hq hm (by omega)
      rw [hiq] at h4
      have h5 := hk0 j v j1 j2
      have e : inlN us j = v.Inlet.toNat := by unfold inlN; rw [List.getD_eq_getElem?_getD, j1]; rfl
      have := h5.2.2 z (by omega) (by omega)
      omega
    ·exact hge)
  rw [hd.parts hu, Qpb] at h1
  exact h1
 have fin : ∀ (vs : List GUnit) (i : Nat), (∀ j u, vs[j]? = some u → us[i + j]? = some u) → dF (Qm3 h us D) p vs i + Qm4 p vs = wF (Qm3 h us D) vs i := by
  intro vs
  induction vs with
  | nil => intro i _; rfl
  | cons u vs ih =>
   intro i hv
   have h1 := unit i u (by have := hv 0 u rfl; simpa using this)
   have h2 := ih (i + 1) (fun j w hw => by
    have := hv (j + 1) w (by simpa using hw)
    rwa [show i + (j + 1) = i + 1 + j from by omega] at this)
   rw [dF, Qm4, wF]
   omega
 exact fin us 0 (fun j u hu => by rw [Nat.zero_add]; exact hu)
end
end Go.Proofs.Ytlhakkkjgdbdpaa
