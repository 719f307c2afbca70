/-
  The law PlantShares as a plain law: the document's greatest work is that of the program. No conditions.
-/
import Derived.Test.YtlhakkkjgdbdpaaX13
import Derived.Test.YtlhakkkjgdbdpaaPShl
namespace Go.Proofs.Ytlhakkkjgdbdpaa
open Go.RowKit
section
variable {us : List GUnit}
theorem Qso : ∀ (A B : List GPiece) (r : Nat → Int), gre us (A ++ B) r = gre us A r ++ gre us B (greR us A r) ∧ greR us (A ++ B) r = greR us B (greR us A r)
 | [], _, _ => ⟨rfl, rfl⟩
 | p :: A, B, r => by
  have ih := Qso A B (Qk9 r (inl us p) (tk us r p))
  rw [List.cons_append, gre, gre, greR, greR, ih.1, ih.2]
  exact ⟨rfl, rfl⟩
theorem Qo9 : ∀ (A B : List (GPiece × Int)), Qj7 (A ++ B) = Qj7 A + Qj7 B
 | [], B => by simp [Qj7]
 | q :: A, B => by rw [List.cons_append, Qj7, Qj7, Qo9 A B]; omega
theorem Qt0 : ∀ (T : List (GPiece × Int)), (∀ q ∈ T, q.1.Part.Gain = 0) → Qj7 T = 0
 | [], _ => rfl
 | q :: T, h => by
  rw [Qj7, Qt0 T fun x hx => h x (List.mem_cons_of_mem _ hx), h q (List.mem_cons_self ..)]
  simp
def sF (F : Nat → Int) : List GUnit → Nat → Int
 | [], _ => 0
 | _ :: us, i => F i + sF F us (i + 1)
theorem sF_add (F G : Nat → Int) : ∀ (us : List GUnit) (i : Nat), sF (fun j => F j + G j) us i = sF F us i + sF G us i
 | [], _ => rfl
 | _ :: us, i => by rw [sF, sF, sF, sF_add F G us]; omega
theorem sF_out (j : Nat) (m : Int) : ∀ (us : List GUnit) (i : Nat), j < i → sF (fun l => if j = l then m else 0) us i = 0
 | [], _, _ => rfl
 | _ :: us, i, h => by rw [sF, sF_out j m us (i + 1) (by omega), if_neg (show ¬ j = i from by omega)]; rfl
theorem sF_at (j : Nat) (m : Int) : ∀ (us : List GUnit) (i : Nat), i ≤ j → j < i + us.length → sF (fun l => if j = l then m else 0) us i = m
 | [], i, h1, h2 => by simp at h2; omega
 | _ :: us, i, h1, h2 => by
  rw [sF]
  rcases Nat.eq_or_lt_of_le h1 with rfl | hlt
  ·rw [if_pos rfl, sF_out _ _ _ _ (Nat.lt_succ_self _), Int.add_zero]
  ·rw [if_neg (show ¬ j = i from by omega), sF_at j m us (i + 1) hlt (by simp at h2; omega), Int.zero_add]
theorem sF_rec (us : List GUnit) : ∀ (T : List (GPiece × Int)), InU us T → sF (fun i => sumG (recU T i)) us 0 = Qj7 T
 | [], _ => by
  have : ∀ (us : List GUnit) (i : Nat), sF (fun i => sumG (recU [] i)) us i = 0 := by
   intro us
   induction us with
   | nil => intro i; rfl
   | cons u us ih => intro i; rw [sF, ih]; rfl
  exact this us 0
 | q :: T, h => by
  obtain ⟨u, h1, h2⟩ := h q (List.mem_cons_self ..)
  have ih := sF_rec us T fun x hx => h x (List.mem_cons_of_mem _ hx)
  have hlt := (List.getElem?_eq_some_iff.1 h1).1
  have e : (fun i => sumG (recU (q :: T) i)) = fun i => (if q.1.unit.toNat = i then q.2 * q.1.Part.Gain else 0) + sumG (recU T i) := by
   funext i
   unfold recU
   rw [List.filter_cons]
   by_cases hc : q.1.unit.toNat = i
   ·rw [if_pos (by simpa using hc), List.map_cons, sumG, if_pos hc]
   ·rw [if_neg (by simpa using hc), if_neg hc, Int.zero_add]
  rw [e, sF_add, sF_at _ _ us 0 (Nat.zero_le _) (by omega), ih, Qj7]
theorem wF_sF (f F : Nat → Int) : ∀ (vs : List GUnit) (i : Nat), (∀ j u, vs[j]? = some u → powI u.Parts (f (i + j)) = F (i + j)) → wF f vs i = sF F vs i
 | [], _, _ => rfl
 | u :: vs, i, h => by
  have h0 := h 0 u rfl
  rw [Nat.add_zero] at h0
  rw [wF, sF, h0, wF_sF f F vs (i + 1) fun j v hv => by
   have := h (j + 1) v (by simpa using hv)
   rwa [show i + (j + 1) = i + 1 + j from by omega] at this]
theorem DOK.work {h : List Int} {D : List GPiece} (hd : DOK h us D) : Qj8 us (Qk8 h us D) = Qj7 (gre us D (fro h)) := by
 rw [Qqa, wF_eq, wF_sF (Qm3 h us D) (fun i => sumG (recU (gre us D (fro h)) i)) us 0 fun j u hu => by rw [Nat.zero_add]; exact hd.pow hu]
 exact sF_rec us _ hd.inU
end
def atG (P : List GPiece) (g : Int) : List GPiece := P.filter fun p => decide (p.Part.Gain = g)
def LE (P : List GPiece) : Nat → List GPiece
 | 0 => []
 | g + 1 => atG P ((g + 1 : Nat) : Int) ++ LE P g
theorem Qle {P : List GPiece} {g : Int} {p : GPiece} (h : p ∈ atG P g) : p ∈ P ∧ p.Part.Gain = g := by
 unfold atG at h
 simpa using h
theorem atG_srt (P : List GPiece) (g : Int) : Srt (atG P g) := by
 unfold Srt
 refine List.Pairwise.imp_of_mem (R := fun _ _ => True) (fun {a b} ha hb _ => ?_) (List.pairwise_iff_getElem.2 fun _ _ _ _ _ => trivial)
 have h1 := (Qle ha).2
 have h2 := (Qle hb).2
 unfold keyP
 omega
theorem LE_mem {P : List GPiece} : ∀ {g : Nat} {p : GPiece}, p ∈ LE P g → p ∈ P ∧ 1 ≤ p.Part.Gain ∧ p.Part.Gain ≤ (g : Int)
 | 0, _, h => by cases h
 | g + 1, p, h => by
  rw [LE] at h
  rcases List.mem_append.1 h with h | h
  ·have := Qle h
   exact ⟨this.1, by omega, by omega⟩
  ·have := LE_mem h
   exact ⟨this.1, this.2.1, by omega⟩
theorem LE_srt (P : List GPiece) : ∀ g : Nat, Srt (LE P g)
 | 0 => Qr9
 | g + 1 => by
  rw [LE]
  refine List.pairwise_append.2 ⟨atG_srt _ _, LE_srt P g, fun a ha b hb => ?_⟩
  have h1 := (Qle ha).2
  have h2 := (LE_mem hb).2
  unfold keyP
  omega
theorem flt_atG (P : List GPiece) (k g : Int) : flt k (atG P g) = if k = -g then flt k P else [] := by
 by_cases h : k = -g
 ·rw [if_pos h]
  unfold flt atG
  rw [List.filter_filter]
  congr 1
  funext a
  unfold keyP
  by_cases hg : a.Part.Gain = g
  ·simp [hg, h]
  ·have : ¬ -a.Part.Gain = k := by omega
   simp [hg, this]
 ·rw [if_neg h]
  exact Qn2 fun p hp => by
   have := (Qle hp).2
   unfold keyP
   omega
theorem flt_LE (P : List GPiece) (k : Int) : ∀ g : Nat, flt k (LE P g) = if -(g : Int) ≤ k ∧ k ≤ -1 then flt k P else []
 | 0 => by rw [if_neg (by omega)]; rfl
 | g + 1 => by
  rw [LE, Qf0, flt_atG, flt_LE P k g]
  by_cases h : k = -((g + 1 : Nat) : Int)
  ·rw [if_pos h, if_neg (by omega), if_pos (by omega), List.append_nil]
  ·rw [if_neg h, List.nil_append]
   by_cases h2 : -(g : Int) ≤ k ∧ k ≤ -1
   ·rw [if_pos h2, if_pos (by omega)]
   ·rw [if_neg h2, if_neg (by omega)]
theorem by_gain {P D : List GPiece} (hD : Stb P D) (hP : ∀ p ∈ P, 0 ≤ p.Part.Gain ∧ p.Part.Gain ≤ 1000) : D = LE P 1000 ++ atG P 0 := by
 refine Qr8 hD.srt (List.pairwise_append.2 ⟨LE_srt P 1000, atG_srt P 0, fun a ha b hb => ?_⟩) fun k => ?_
 ·have h1 := (LE_mem ha).2
  have h2 := (Qle hb).2
  unfold keyP
  omega
 ·rw [hD.eqf, Qf0, flt_LE, flt_atG]
  by_cases h : k = -0
  ·rw [if_neg (by omega), if_pos h, List.nil_append]
  ·rw [if_neg h, List.append_nil]
   by_cases h2 : -((1000 : Nat) : Int) ≤ k ∧ k ≤ -1
   ·rw [if_pos h2]
   ·rw [if_neg h2]
    exact Qn2 fun p hp => by
     have := hP p hp
     unfold keyP
     omega
section
variable {N : Nat} {h : List Int} {us : List GUnit}
theorem lowB_loop (u : GUnit) (m : Int) (c : Nat) (hc : c < h.length) (hL : h.length ≤ 6) (hui : u.Inlet = (c : Int)) (K : List Int → Option Int) (m0 : 0 ≤ m) (m1 : m ≤ 100000) : ∀ (n k : Nat) (f : Nat → Int), c + 1 - k < n → k ≤ c + 1 → (∀ i, k ≤ i → 0 ≤ f i ∧ f i ≤ 6000000) →
  Qdv N h u m K n k (rw' h.length f) = K (rw' h.length (fun i => if k ≤ i ∧ i ≤ c then f i - m else f i)) := by
 intro n
 induction n with
 | zero => intro k f h; exact absurd h (Nat.not_lt_zero _)
 | succ n ih =>
  intro k f hn hk hf
  rw [Qdv]
  rcases Nat.eq_or_lt_of_le hk with e | hlt
  ·rw [show decide ((k : Int) ≤ u.Inlet) = false from decide_eq_false (by omega), cond_false]
   congr 1
   exact Qjp fun i hi => by rw [if_neg (by omega)]
  ·have e1 : w64 ((k : Int) + 1) = ((k + 1 : Nat) : Int) := Qa6 (by omega) (by omega)
   have hfk := hf k (Nat.le_refl _)
   have e2 : w64 (f k - m) = f k - m := Qa6 (by omega) (by omega)
   have d1 : decide (0 ≤ (k : Int)) = true := decide_eq_true (by omega)
   have d2 : decide (k < h.length) = true := decide_eq_true (by omega)
   rw [show decide ((k : Int) ≤ u.Inlet) = true from decide_eq_true (by omega)]
   simp only [cond_true, chk, Int.toNat_natCast, d1, d2, Bool.and_self, Qg4 f (by omega : k < h.length), Option.bind_some, e1, e2, Qpv]
   rw [ih (k + 1) _ (by omega) hlt (fun i hi => by
    unfold updN
    rw [if_neg (by omega)]
    exact hf i (by omega))]
   congr 1
   refine Qjp fun i hi => ?_
   unfold updN
   by_cases he : i = k
   ·subst he
    rw [if_neg (by omega), if_pos rfl, if_pos ⟨Nat.le_refl _, by omega⟩]
   ·rw [if_neg he]
    by_cases h2 : k + 1 ≤ i ∧ i ≤ c
    ·rw [if_pos h2, if_pos (by omega)]
    ·rw [if_neg h2, if_neg (by omega)]
def Qwa (r : Nat → Int) (w : Int) : Nat → Int
 | 0 => w
 | k + 1 => if r k < Qwa r w k then r k else Qwa r w k
theorem Qt5 (r : Nat → Int) (w : Int) : ∀ k : Nat, Qwa r w (k + 1) = if minI r k < w then minI r k else w
 | 0 => rfl
 | k + 1 => by
  rw [Qwa, Qt5 r w k, minI]
  by_cases h1 : minI r k < w <;> by_cases h2 : r (k + 1) < minI r k <;> by_cases h3 : r (k + 1) < w <;> simp only [h1, h2, h3, if_true, if_false] <;> omega
theorem minB_loop (u : GUnit) (w : Int) (c : Nat) (hc : c < h.length) (hL : h.length ≤ 6) (hui : u.Inlet = (c : Int)) (f : Nat → Int) (K : Int → Option Int) : ∀ (n k : Nat), c + 1 - k < n → k ≤ c + 1 →
  Qeh N h (rw' h.length f) u K n (Qwa f w k) k = K (Qwa f w (c + 1)) := by
 intro n
 induction n with
 | zero => intro k h; exact absurd h (Nat.not_lt_zero _)
 | succ n ih =>
  intro k hn hk
  rw [Qeh]
  rcases Nat.eq_or_lt_of_le hk with e | hlt
  ·rw [show decide ((k : Int) ≤ u.Inlet) = false from decide_eq_false (by omega), cond_false, e]
  ·have e1 : w64 ((k : Int) + 1) = ((k + 1 : Nat) : Int) := Qa6 (by omega) (by omega)
   have d1 : decide (0 ≤ (k : Int)) = true := decide_eq_true (by omega)
   have d2 : decide (k < h.length) = true := decide_eq_true (by omega)
   rw [show decide ((k : Int) ≤ u.Inlet) = true from decide_eq_true (by omega)]
   simp only [cond_true, chk, Int.toNat_natCast, d1, d2, Bool.and_self, Qg4 f (by omega : k < h.length), Option.bind_some, e1]
   exact ih (k + 1) (by omega) hlt
theorem part_loop (hk : ShOK h us) (hN : 300 ≤ N) (g : Nat) {i : Nat} {u : GUnit} (hu : us[i]? = some u) (K : Int × List Int → Option Int) : ∀ (n j : Nat) (A : Int) (r : Nat → Int), u.Parts.length - j < n → j ≤ u.Parts.length → (∀ k, 0 ≤ r k ∧ r k ≤ 6000000) →
  Qdc N h us g i K n (w64 A) j (rw' h.length r) = K (w64 (A + Qj7 (gre us (atG ((u.Parts.drop j).map fun q => (⟨(i : Int), q⟩ : GPiece)) g) r)), rw' h.length (greR us (atG ((u.Parts.drop j).map fun q => (⟨(i : Int), q⟩ : GPiece)) g) r)) := by
 have hh := hk.h1
 have hub := hk.ub u (List.mem_of_getElem? hu)
 have hui := hk.inl u (List.mem_of_getElem? hu)
 have hpl := (Qev hub).2.1.2
 intro n
 induction n with
 | zero => intro j _ _ h; exact absurd h (Nat.not_lt_zero _)
 | succ n ih =>
  intro j A r hn hj hr
  rw [Qdc, Qcv hu, Option.bind_some]
  rcases Nat.eq_or_lt_of_le hj with e | hlt
  ·rw [show decide ((j : Int) < (u.Parts.length : Int)) = false from decide_eq_false (by omega), cond_false, List.drop_of_length_le (by omega)]
   simp [atG, gre, greR, Qj7]
  ·obtain ⟨q, hq⟩ : ∃ q, u.Parts[j]? = some q := ⟨_, List.getElem?_eq_getElem hlt⟩
   have hqb := Qlz hub q (List.mem_of_getElem? hq)
   have e1 : w64 ((j : Int) + 1) = ((j + 1 : Nat) : Int) := Qa6 (by omega) (by omega)
   simp only [Qbr]
   rw [show decide ((j : Int) < (u.Parts.length : Int)) = true from decide_eq_true (by omega)]
   simp only [cond_true, Qcv hq, Option.bind_some, e1]
   rw [Qfn hq, List.map_cons]
   have ea : atG ((⟨(i : Int), q⟩ : GPiece) :: (u.Parts.drop (j + 1)).map fun q => (⟨(i : Int), q⟩ : GPiece)) g = if q.Gain = (g : Int) then (⟨(i : Int), q⟩ : GPiece) :: atG ((u.Parts.drop (j + 1)).map fun q => (⟨(i : Int), q⟩ : GPiece)) g else atG ((u.Parts.drop (j + 1)).map fun q => (⟨(i : Int), q⟩ : GPiece)) g := by
    unfold atG
    rw [List.filter_cons]
    by_cases hg : q.Gain = (g : Int)
    ·rw [if_pos (by simpa using hg), if_pos hg]
    ·rw [if_neg (by simpa using hg), if_neg hg]
   rw [ea]
   by_cases hg : q.Gain = (g : Int)
   ·rw [show (q.Gain != (g : Int)) = false from by simpa using hg, cond_false, if_pos hg]
    obtain ⟨c, hc⟩ : ∃ c : Nat, u.Inlet = (c : Int) := ⟨u.Inlet.toNat, by omega⟩
    have hin : inl us (⟨(i : Int), q⟩ : GPiece) = c := by unfold inl; simp [hu, hc]
    have hb := Qv7 (us := us) (r := r) (p := ⟨(i : Int), q⟩) (fun k => (hr k).1) hqb.1.1
    have htk : Qwa r q.Width (c + 1) = tk us r ⟨(i : Int), q⟩ := by rw [Qt5]; unfold tk; rw [hin]
    have hm := minB_loop (N := N) (h := h) u q.Width c (by omega) hh hc r
     (fun y48 => Qdv N h u y48 (fun y50 => Qdc N h us g i K n (w64 (w64 A + w64 (y48 * (g : Int)))) ((j + 1 : Nat) : Int) y50) N 0 (rw' h.length r)) N 0 (by omega) (Nat.zero_le _)
    rw [show ((0 : Nat) : Int) = 0 from rfl, htk] at hm
    refine Eq.trans hm ?_
    have hl := lowB_loop (N := N) (h := h) u (tk us r ⟨(i : Int), q⟩) c (by omega) hh hc (fun y50 => Qdc N h us g i K n (w64 (w64 A + w64 (tk us r ⟨(i : Int), q⟩ * (g : Int)))) ((j + 1 : Nat) : Int) y50) hb.1 (by have := hb.2.1; dsimp only at this; omega) N 0 r (by omega) (Nat.zero_le _) (fun k _ => hr k)
    rw [show ((0 : Nat) : Int) = 0 from rfl] at hl
    refine Eq.trans hl ?_
    have elow : (fun k => if 0 ≤ k ∧ k ≤ c then r k - tk us r ⟨(i : Int), q⟩ else r k) = Qk9 r (inl us ⟨(i : Int), q⟩) (tk us r ⟨(i : Int), q⟩) := by
     funext k
     unfold Qk9
     rw [hin]
     by_cases hkc : k ≤ c
     ·rw [if_pos ⟨Nat.zero_le _, hkc⟩, if_pos hkc]
     ·rw [if_neg (fun x => hkc x.2), if_neg hkc]
    rw [elow, Qij, Qr4, ih (j + 1) _ _ (by omega) hlt (fun k => by
     have h1 := Qny (us := us) (r := r) (p := ⟨(i : Int), q⟩) (fun k => (hr k).1) hqb.1.1 k
     have h2 := Qxx (us := us) (r := r) (p := ⟨(i : Int), q⟩) (fun k => (hr k).1) hqb.1.1 k
     have := hr k
     omega), gre, greR, Qj7]
    dsimp only
    rw [hg, Int.add_assoc]
   ·rw [show (q.Gain != (g : Int)) = true from by simpa using hg, cond_true, if_neg hg]
    exact ih (j + 1) A r (by omega) hlt hr
theorem atG_app (A B : List GPiece) (g : Int) : atG (A ++ B) g = atG A g ++ atG B g := List.filter_append ..
theorem greR_bd {L : List GPiece} {r : Nat → Int} (hL : Wide L) (hr : ∀ k, 0 ≤ r k ∧ r k ≤ 6000000) : ∀ k, 0 ≤ greR us L r k ∧ greR us L r k ≤ 6000000 := fun k => by
 have := Qop (us := us) L r hL (fun k => (hr k).1) k
 have := hr k
 omega
theorem unit_loop (hk : ShOK h us) (hN : 300 ≤ N) (g : Nat) (K : Int × List Int → Option Int) : ∀ (n i : Nat) (A : Int) (r : Nat → Int), us.length - i < n → i ≤ us.length → (∀ k, 0 ≤ r k ∧ r k ≤ 6000000) →
  Qdw N h us g K n (w64 A) i (rw' h.length r) = K (w64 (A + Qj7 (gre us (atG (Qda i (us.drop i)) g) r)), rw' h.length (greR us (atG (Qda i (us.drop i)) g) r)) := by
 have hul := hk.u1
 intro n
 induction n with
 | zero => intro i _ _ h; exact absurd h (Nat.not_lt_zero _)
 | succ n ih =>
  intro i A r hn hi hr
  rw [Qdw]
  rcases Nat.eq_or_lt_of_le hi with e | hlt
  ·rw [show decide ((i : Int) < (us.length : Int)) = false from decide_eq_false (by omega), cond_false, List.drop_of_length_le (by omega)]
   simp [Qda, atG, gre, greR, Qj7]
  ·obtain ⟨u, hu⟩ : ∃ u, us[i]? = some u := ⟨_, List.getElem?_eq_getElem hlt⟩
   have hub := hk.ub u (List.mem_of_getElem? hu)
   have hpl := (Qev hub).2.1.2
   have e1 : w64 ((i : Int) + 1) = ((i + 1 : Nat) : Int) := Qa6 (by omega) (by omega)
   simp only [Qbr]
   rw [show decide ((i : Int) < (us.length : Int)) = true from decide_eq_true (by omega), cond_true]
   have hp := part_loop (N := N) hk hN g hu (fun x => Qdw N h us g K n x.1 (w64 ((i : Int) + 1)) x.2) N 0 A r (by omega) (Nat.zero_le _) hr
   rw [show ((0 : Nat) : Int) = 0 from rfl, List.drop_zero] at hp
   refine Eq.trans hp ?_
   have hw : Wide (atG (u.Parts.map fun q => (⟨(i : Int), q⟩ : GPiece)) g) := fun p hp => by
    obtain ⟨q, hq, rfl⟩ := List.mem_map.1 (Qle hp).1
    exact (Qlz hub q hq).1.1
   dsimp only
   rw [e1, ih (i + 1) _ _ (by omega) hlt (greR_bd hw hr), Qfn hu, Qda, atG_app]
   have ga := Qso (us := us) (atG (u.Parts.map fun q => (⟨(i : Int), q⟩ : GPiece)) g) (atG (Qda (i + 1) (us.drop (i + 1))) g) r
   rw [ga.1, ga.2, Qo9, Int.add_assoc]
theorem gain_loop (hk : ShOK h us) (hN : 300 ≤ N) (K : Int → Option Int) : ∀ (n g : Nat) (A : Int) (r : Nat → Int), g < n → g ≤ 1000 → (∀ k, 0 ≤ r k ∧ r k ≤ 6000000) →
  Qdd N h us K n (w64 A) g (rw' h.length r) = K (w64 (A + Qj7 (gre us (LE (Qda 0 us) g) r))) := by
 have hul := hk.u1
 intro n
 induction n with
 | zero => intro g _ _ h; exact absurd h (Nat.not_lt_zero _)
 | succ n ih =>
  intro g A r hn hg hr
  rw [Qdd]
  cases g with
  | zero =>
   rw [show decide (((0 : Nat) : Int) > 0) = false from rfl, cond_false]
   simp [LE, gre, Qj7]
  | succ g =>
   have e1 : w64 (((g + 1 : Nat) : Int) - 1) = (g : Int) := by rw [Qa6 (by omega) (by omega)]; omega
   simp only [Qbr]
   rw [show decide (((g + 1 : Nat) : Int) > 0) = true from decide_eq_true (by omega), cond_true]
   have hu := unit_loop (N := N) hk hN (g + 1) (fun x => Qdd N h us K n x.1 (w64 (((g + 1 : Nat) : Int) - 1)) x.2) N 0 A r (by omega) (Nat.zero_le _) hr
   rw [show ((0 : Nat) : Int) = 0 from rfl, List.drop_zero] at hu
   refine Eq.trans hu ?_
   have hw : Wide (atG (Qda 0 us) ((g + 1 : Nat) : Int)) := fun p hp => by
    obtain ⟨i, u, h1, _, h3⟩ := Qia us 0 p (Qle hp).1
    exact (Qlz (hk.ub u (List.mem_of_getElem? h1)) p.Part h3).1.1
   dsimp only
   rw [e1, ih g _ _ (by omega) (by omega) (greR_bd hw hr), LE]
   have ga := Qso (us := us) (atG (Qda 0 us) ((g + 1 : Nat) : Int)) (LE (Qda 0 us) g) r
   rw [ga.1, Qo9, Int.add_assoc]
theorem roomB_loop (hk : ShOK h us) (hN : 300 ≤ N) (K : List Int → Option Int) : ∀ (n i : Nat), h.length - i < n → i ≤ h.length →
  Qeg N h K n i (rw' h.length (fun k => if k < i then fro h k else 0)) = K (rw' h.length (fro h)) := by
 have hh := hk.h1
 intro n
 induction n with
 | zero => intro i h; exact absurd h (Nat.not_lt_zero _)
 | succ n ih =>
  intro i hn hi
  rw [Qeg]
  rcases Nat.eq_or_lt_of_le hi with e | hlt
  ·rw [show decide ((i : Int) < (h.length : Int)) = false from decide_eq_false (by omega), cond_false]
   congr 1
   exact Qjp fun k hk' => by rw [if_pos (by omega)]
  ·have e1 : w64 ((i : Int) + 1) = ((i + 1 : Nat) : Int) := Qa6 (by omega) (by omega)
   have d1 : decide (0 ≤ (i : Int)) = true := decide_eq_true (by omega)
   have d2 : decide (i < h.length) = true := decide_eq_true hlt
   rw [show decide ((i : Int) < (h.length : Int)) = true from decide_eq_true (by omega)]
   simp only [cond_true, Qwg hh hk.hm hN i, Option.bind_some, chk, Int.toNat_natCast, d1, d2, Bool.and_self, Qg4 (fun k => if k < i then fro h k else 0) hlt, e1, Qpv]
   rw [← ih (i + 1) (by omega) hlt]
   congr 1
   refine Qjp fun k hk' => ?_
   unfold updN
   by_cases he : k = i
   ·subst he; rw [if_pos rfl, if_pos (Nat.lt_succ_self _)]
   ·rw [if_neg he]
    show (if k < i then fro h k else 0) = _
    by_cases h2 : k < i
    ·rw [if_pos h2, if_pos (show k < i + 1 from by omega)]
    ·rw [if_neg h2, if_neg (show ¬ k < i + 1 from by omega)]
theorem bestR_eq {D : List GPiece} (hd : DOK h us D) (hN : 2000 ≤ N) : Qjs N h us = some (Qj8 us (Qk8 h us D)) := by
 have hk := hd.k
 have hh := hk.h1
 have hul := hk.u1
 unfold Qjs
 have hc := Qws (β := Int) 8 h.length (by omega) (by omega)
 rw [show ((8 : Nat) : Int) = 8 from rfl] at hc
 rw [hc]
 simp only [Qbr, Int.toNat_natCast, Qt8]
 have a1 := roomB_loop (N := N) hk (by omega) (fun y2 => Qdd N h us (fun y4 => some y4) N 0 1000 y2) N 0 (by omega) (Nat.zero_le _)
 simp only [Nat.not_lt_zero, if_false] at a1
 rw [show ((0 : Nat) : Int) = 0 from rfl] at a1
 refine Eq.trans a1 ?_
 have a2 := gain_loop (N := N) hk (by omega) (fun y4 => some y4) N 1000 0 (fro h) (by omega) (Nat.le_refl _) (fun k => Qur hh hk.hm k)
 rw [Qpa, show ((1000 : Nat) : Int) = 1000 from rfl, Int.zero_add] at a2
 refine Eq.trans a2 ?_
 have hP : ∀ p ∈ Qda 0 us, 0 ≤ p.Part.Gain ∧ p.Part.Gain ≤ 1000 := fun p hp => by
  obtain ⟨i, u, h1, _, h3⟩ := Qia us 0 p hp
  exact (Qlz (hk.ub u (List.mem_of_getElem? h1)) p.Part h3).2
 have hDe := by_gain hd.st hP
 have hw : Qj7 (gre us D (fro h)) = Qj7 (gre us (LE (Qda 0 us) 1000) (fro h)) := by
  have ga := Qso (us := us) (LE (Qda 0 us) 1000) (atG (Qda 0 us) 0) (fro h)
  rw [hDe, ga.1, Qo9, Qt0 (gre us (atG (Qda 0 us) 0) (greR us (LE (Qda 0 us) 1000) (fro h))) fun q hq => ?_, Int.add_zero]
  have hwid : Wide (LE (Qda 0 us) 1000) := fun p hp => hd.wide p (by rw [hDe]; exact List.mem_append_left _ hp)
  have hwid2 : Wide (atG (Qda 0 us) 0) := fun p hp => hd.wide p (by rw [hDe]; exact List.mem_append_right _ hp)
  exact (Qle (Qm7 (us := us) _ _ hwid2 (fun k => (Qop (us := us) _ _ hwid hd.nn k).1) q hq).1).2
 have hs := hd.share
 unfold Qps at hs
 simp only [Bool.and_eq_true, decide_eq_true_eq] at hs
 have hmb := Qmg hk.ub hs.1.1 hs.1.2
 have hb := work_bd us (Qk8 h us D) hk.ub (fun m hm => (hmb m hm).1)
 rw [← hw, ← hd.work, Qa6 (by omega) (by omega)]
end
theorem shares_law (h : List Int) (us : List GUnit) (p : List Int) (gh : Qwf h) (gu : Qup us) (_ : Qwf p) : Qgm (h.length + us.length + 3000) h us p = some true := by
 have hl := gh.1
 have hu := gu.1
 rw [maxLen_eq] at hl hu
 generalize hN : h.length + us.length + 3000 = N
 unfold Qgm
 simp only [awake_at, Option.bind_some]
 refine Qrb (P := fun _ => fewB h us = true ∧ p.length ≤ 10) (fun _ hx => ?_) (fun k1 h1 => ?_)
 ·obtain ⟨hfew, q2⟩ := hx
  obtain ⟨f1, f2, f3⟩ := few_out hfew
  have cu := unitsC_eq (N := N) (t := us) (by omega) (fun u hu => by have := f1 u hu; omega) (by omega)
  have ch := Qxz (N := N) (l := h) (by omega)
  have cp := Qxz (N := N) (l := p) (by omega)
  have rh := rheads_eq (N := N) (h := h) (us := us) (by omega) (by omega) (fun u hu => by have := f1 u hu; omega) (by omega)
  have hb := bound_eq (N := N) (h := h) (us := us) (p := p) (by omega)
  simp only [ch, cu, cp, rh, hb, Option.bind_some]
  cases hv : Qjn h us with
  | false => rw [shareN_eq hv (by omega)]; rfl
  | true =>
   have hk := shOK hv
   obtain ⟨D, pr, hd, e, e2, e3⟩ := share_eq (N := N) hv (by omega)
   obtain ⟨p1, p2⟩ := Qp0 e2
   have hs := hd.share
   have hs' := hs
   unfold Qps at hs'
   simp only [Bool.and_eq_true, decide_eq_true_eq] at hs'
   have hmb := Qmg hk.ub hs'.1.1 hs'.1.2
   have hb0 := hk.h1
   rw [e]
   simp only [Option.bind_some, Bool.not_true, cond_false, Bool.true_and]
   refine Qrb (P := fun _ => True) (fun _ _ => ?_) (fun k26 h26 => ?_)
   ·rw [Qt9 (by omega) (by omega)]
    simp only [Option.bind_some]
    cases hp : Qko h p with
    | false => rfl
    | true =>
     obtain ⟨r1, r2⟩ := Qp0 hp
     rw [Qu1 hk r1 r2 (by omega)]
     simp
   ·simp only [Qjg, shareR_eq hk (by omega : 300 ≤ N), hs, Option.bind_some, workR_eq (by omega : 300 ≤ N) hk.u1 hs'.1.1 hk.ub (fun m hm => by have := hmb m hm; omega), bestR_eq hd (by omega : 2000 ≤ N), Qt9 (h := h) (p := pr) (N := N) (by omega) (by omega), e2, Qu1 hk p1 p2 (by omega : 300 ≤ N), e3]
    simp only [show ((0 : Int) != 0) = false from rfl, cond_false, Bool.not_true, bne_self_eq_false]
    exact h26 () trivial
 ·rw [few_eq (by omega) (by omega)]
  simp only [Option.bind_some]
  cases hfew : fewB h us with
  | false => rfl
  | true =>
   simp only [Bool.not_true, cond_false]
   by_cases hp10 : p.length ≤ 10
   ·rw [show decide ((p.length : Int) > 10) = false from decide_eq_false (by omega), cond_false]
    exact h1 () ⟨hfew, hp10⟩
   ·rw [show decide ((p.length : Int) > 10) = true from decide_eq_true (by omega)]
    rfl
end Go.Proofs.Ytlhakkkjgdbdpaa
