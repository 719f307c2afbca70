/-
  Plain laws of the reference's best plan: ref07.better goes through all plans. No conditions.
-/
import Derived.Test.YtlhakkkjgdbdpaaPProf
import Derived.Test.YtlhakkkjgdbdpaaX15
namespace Go.Proofs.Ytlhakkkjgdbdpaa
open Go.RowKit
theorem Qk2 {N : Nat} {j : GJob} (hj : JobOK j) {h : Nat} {H : GHour} (hH : j.Hours[h]? = some H) {b k : Int} (b0 : 0 ≤ b) (b1 : b ≤ 11) : Qet N j h b k = some (folB j H b k) := by
 have hL := hj.l1
 have hL0 := hj.l0
 have hr0 := hj.r0
 have hr1 := hj.r1
 unfold Qet folB
 by_cases h1 : 0 ≤ k ∧ k ≤ (j.Levels.length : Int) - 1
 ·have e4 : w64 (0 - j.Ramp) = -j.Ramp := by rw [Qc3 (by omega) (by omega)]; omega
  have e5 : w64 (k - b) = k - b := Qc3 (by omega) (by omega)
  rw [show decide (k ≥ 0) = true from decide_eq_true (by omega), show decide (k < (j.Levels.length : Int)) = true from decide_eq_true (by omega), Qix.2 h1, e4, e5, in_eq, Qr6 h1.1 h1.2, Qdt hH]
  simp only [cond_true, Option.bind_some, Bool.true_and]
  cases btw (k - b) (-j.Ramp) j.Ramp <;> rfl
 ·have e1 : btw k 0 ((j.Levels.length : Int) - 1) = false := by
   cases e : btw k 0 ((j.Levels.length : Int) - 1) with
   | false => rfl
   | true => exact absurd (Qix.1 e) h1
  rw [e1]
  by_cases h2 : 0 ≤ k
  ·rw [show decide (k ≥ 0) = true from decide_eq_true (by omega), show decide (k < (j.Levels.length : Int)) = false from decide_eq_false (by omega)]
   rfl
  ·rw [show decide (k ≥ 0) = false from decide_eq_false (by omega)]
   rfl
theorem Qr8 {N : Nat} {j : GJob} (hj : JobOK j) {h : Nat} {H : GHour} (hH : j.Hours[h]? = some H) {b k : Int} (hf : folB j H b k = true) : Qha N j h b k = some (gnI j H b k) := by
 have hk := fol_in H b k hf
 have hb := hj.hours H (List.mem_of_getElem? hH)
 have hlv := lev_bd hj k.toNat
 have hp := Qry hb.1.1 hb.1.2 hlv.1 hlv.2
 have hs0 := hj.s0
 have hs1 := hj.s1
 have e6 : w64 (H.Price * levI j k.toNat) = H.Price * levI j k.toNat := Qc3 (by omega) (by omega)
 have e7 : w64 (H.Price * levI j k.toNat - j.Start) = H.Price * levI j k.toNat - j.Start := Qc3 (by omega) (by omega)
 unfold Qha gnI
 rw [Qdt hH, Qr6 hk.1 (by have := hk.2; unfold nL at this; omega)]
 simp only [Option.bind_some, e6, e7]
 by_cases h4 : b = 0
 ·by_cases h5 : 0 < k
  ·simp [h4, h5]
  ·simp [h4, h5]
 ·have h6 : (b == 0) = false := by simpa using h4
  simp [h4, h6]
theorem Qtq {N : Nat} {j : GJob} (hj : JobOK j) {p : List Int} (hp : p.length = j.Hours.length) (K : Int → Option (Int × Bool)) : ∀ (n h : Nat) (b acc : Int), (j.Hours.drop h).length < n → 0 ≤ b → b ≤ 11 → -2000000000 * (h : Int) ≤ acc → acc ≤ 1000000000 * (h : Int) →
  Qdr N j p K n acc b h = match Qku (folB j) (gnI j) (j.Hours.drop h) b (p.drop h) with | some v => K (acc + v) | none => some (0, false) := by
 have hH := hj.h1
 intro n
 induction n with
 | zero => intro h _ _ h; exact absurd h (Nat.not_lt_zero _)
 | succ n ih =>
  intro h b acc hn b0 b1 a0 a1
  rw [Qdr]
  cases hd : j.Hours.drop h with
  | nil =>
   have h1 := Qf6 hd
   rw [List.drop_eq_nil_of_le (by omega), show decide ((h : Int) < (p.length : Int)) = false from decide_eq_false (by omega)]
   simp [Qku]
  | cons H hs =>
   obtain ⟨hH', hd', hlt⟩ := Qen hd
   obtain ⟨k, hk⟩ : ∃ k, p[h]? = some k := ⟨_, List.getElem?_eq_getElem (by omega)⟩
   have hdp : p.drop h = k :: p.drop (h + 1) := by
    rw [List.getElem?_eq_some_iff] at hk
    obtain ⟨hk1, hk2⟩ := hk
    rw [List.drop_eq_getElem_cons hk1, hk2]
   rw [show decide ((h : Int) < (p.length : Int)) = true from decide_eq_true (by omega), cond_true, Qdt hk, Option.bind_some, Qk2 hj hH' b0 b1, hdp, Qku]
   cases hf : folB j H b k with
   | false => simp
   | true =>
    have hk2 := fol_in H b k hf
    have hL := (Qj5 hj).2
    have gb := Qyi hj (List.mem_of_getElem? hH') b k
    have e1 : w64 ((h : Int) + 1) = ((h + 1 : Nat) : Int) := Qc3 (by omega) (by omega)
    have e2 : w64 (acc + gnI j H b k) = acc + gnI j H b k := Qc3 (by omega) (by omega)
    simp only [cond_true, Option.bind_some, Bool.not_true, cond_false, Qr8 hj hH' hf, e1, e2]
    rw [ih (h + 1) k _ (by rw [hd']; rw [hd] at hn; simp at hn; omega) hk2.1 (by omega) (by omega) (by omega), hd']
    cases Qku (folB j) (gnI j) hs k (p.drop (h + 1)) with
    | none => simp
    | some v => simp [Int.add_assoc]
def outB (x : Option Int) : Int × Bool := match x with | some v => (v, true) | none => (0, false)
theorem Qq2 {N : Nat} {j : GJob} {p : List Int} (hN : 300 ≤ N) (hj : JobOK j) : Qgt N j p = some (outB (Qoa j p)) := by
 unfold Qgt
 simp only [Qb0]
 by_cases hl : p.length = j.Hours.length
 ·rw [show ((p.length : Int) != (j.Hours.length : Int)) = false from by simp [hl], cond_false]
  have hf := Qnk hj
  have := Qtq (N := N) hj hl (fun y => some (y, true)) N 0 j.First 0 (by have := hj.h1; simp; omega) hf.1 hf.2 (by simp) (by simp)
  rw [show ((0 : Nat) : Int) = 0 from rfl] at this
  rw [this, List.drop_zero, List.drop_zero]
  unfold Qoa
  cases Qku (folB j) (gnI j) j.Hours j.First p with
  | none => rfl
  | some v => simp [outB]
 ·rw [show ((p.length : Int) != (j.Hours.length : Int)) = true from by simp; omega, cond_true]
  have : Qoa j p = none := by
   cases h : Qoa j p with
   | none => rfl
   | some v => exact absurd (Qts h) hl
  rw [this]
  rfl
def updS (s : List Int × Int) (o : Option (List Int × Int)) : List Int × Int := match o with
 | none => s
 | some q => bif s.1.isEmpty || decide (q.2 > s.2) then q else s
theorem upd_fmx (c : Nat → Option Int) (g : Nat → List Int) (acc : Int) (hg : ∀ k, (g k).isEmpty = false) (n k : Nat) (s : List Int × Int) :
  updS (updS s ((c k).map fun v => (g k, acc + v))) ((fmx c n (k + 1)).map fun p => (g p.1, acc + p.2)) = updS s ((fmx c (n + 1) k).map fun p => (g p.1, acc + p.2)) := by
 rw [fmx]
 cases c k with
 | none => rfl
 | some v =>
  cases fmx c n (k + 1) with
  | none => rfl
  | some p =>
   obtain ⟨k', w⟩ := p
   obtain ⟨b, q⟩ := s
   simp only [Option.map_some, updS]
   rcases bft b.isEmpty with hb | hb
   ·simp only [hb, Bool.true_or, cond_true, hg, Bool.false_or]
    by_cases h : v < w
    ·rw [if_pos h, show decide (acc + w > acc + v) = true from decide_eq_true (by omega)]
     rfl
    ·rw [if_neg h, show decide (acc + w > acc + v) = false from decide_eq_false (by omega)]
     rfl
   ·simp only [hb, Bool.false_or]
    by_cases h1 : acc + v > q
    ·simp only [decide_eq_true h1, cond_true, hg, Bool.false_or]
     by_cases h : v < w
     ·rw [if_pos h, show decide (acc + w > acc + v) = true from decide_eq_true (by omega)]
      simp only [cond_true, Option.map_some]
      rw [show decide (acc + w > q) = true from decide_eq_true (by omega)]
      rfl
     ·rw [if_neg h, show decide (acc + w > acc + v) = false from decide_eq_false (by omega)]
      simp only [cond_false, Option.map_some, decide_eq_true h1]
      rfl
    ·simp only [decide_eq_false h1, cond_false, hb, Bool.false_or]
     by_cases h : v < w
     ·rw [if_pos h]
      rfl
     ·rw [if_neg h, show decide (acc + w > q) = false from decide_eq_false (by omega)]
      simp only [cond_false, Option.map_some, decide_eq_false h1]
theorem Qvs {N : Nat} {j : GJob} (hj : JobOK j) (rec_ : GJob → List Int → List Int → Int → Option (List Int × Int)) {now : List Int} {h : Nat} {H : GHour} {hs : List GHour} {l acc : Int} (K : List Int × Int → Option (List Int × Int)) (hnow : now.length = h) (hd : j.Hours.drop h = H :: hs) (l0 : 0 ≤ l) (l1 : l ≤ 11)
  (hr : ∀ (k : Nat) (s : List Int × Int), k < nL j → folB j H l k = true → rec_ j (now ++ [(k : Int)]) s.1 s.2 = some (updS s (bif mayV (nL j) (folB j) hs k then some ((now ++ [(k : Int)]) ++ Qpt (nL j) (folB j) (gnI j) hs k, acc + gnI j H l k + tabV (nL j) (folB j) (gnI j) hs k) else none))) :
  ∀ (n k : Nat) (s : List Int × Int), nL j - k < n → k ≤ nL j → Qc8 N j rec_ now l K n s.1 s.2 k = K (updS s ((fmx (Qqj (nL j) (folB j) (gnI j) H hs l) (nL j - k) k).map fun p => (now ++ (p.1 : Int) :: Qpt (nL j) (folB j) (gnI j) hs p.1, acc + p.2))) := by
 have hL := (Qj5 hj).2
 have hHb := (Qkx hj).2
 obtain ⟨hH, -, hlt⟩ := Qen hd
 intro n
 induction n with
 | zero => intro k s h; exact absurd h (Nat.not_lt_zero _)
 | succ n ih =>
  intro k s hn hk
  rw [Qc8]
  rcases Nat.eq_or_lt_of_le hk with e | hlk
  ·rw [show decide ((k : Int) < (j.Levels.length : Int)) = false from decide_eq_false (by unfold nL at e; omega), cond_false, show nL j - k = 0 from by omega]
   rfl
  ·have e1 : w64 ((k : Int) + 1) = ((k + 1 : Nat) : Int) := Qc3 (by omega) (by omega)
   rw [show decide ((k : Int) < (j.Levels.length : Int)) = true from decide_eq_true (by unfold nL at hlk; omega), cond_true, hnow, Qk2 hj hH l0 l1, Option.bind_some, e1, show nL j - k = (nL j - (k + 1)) + 1 from by omega,
    ← upd_fmx _ (fun k => now ++ (k : Int) :: Qpt (nL j) (folB j) (gnI j) hs k) acc (fun k => by simp)]
   cases hf : folB j H l k with
   | false =>
    rw [cond_false, ih (k + 1) s (by omega) (by omega)]
    have : Qqj (nL j) (folB j) (gnI j) H hs l k = none := by unfold Qqj; rw [hf]; rfl
    rw [this]
    rfl
   | true =>
    unfold nH at hHb
    rw [cond_true, show decide ((0 + h) * 8 ≤ 140737488355328) = true from decide_eq_true (by omega), show decide ((h + [(k : Int)].length) * 8 ≤ 140737488355328) = true from decide_eq_true (by simp; omega)]
    simp only [chk, cond_true]
    rw [hr k s hlk hf, Option.bind_some, ih (k + 1) _ (by omega) (by omega)]
    congr 2
    congr 1
    unfold Qqj
    rw [hf, Bool.true_and]
    cases mayV (nL j) (folB j) hs k with
    | false => rfl
    | true => simp [Int.add_assoc]
theorem better_eq {j : GJob} (hj : JobOK j) : ∀ (hs : List GHour) (h N : Nat) (now : List Int) (l acc : Int) (s : List Int × Int), j.Hours.drop h = hs → now.length = h → h ≤ nH j → 300 + hs.length < N → 0 ≤ l → l ≤ 11 → (h = 0 → l = j.First) → (∀ m, h = m + 1 → now[m]? = some l) →
  (∀ p, Qoa j (now ++ p) = (Qku (folB j) (gnI j) hs l p).map (acc + ·)) →
  Qeq N j now s.1 s.2 = some (updS s (bif mayV (nL j) (folB j) hs l then some (now ++ Qpt (nL j) (folB j) (gnI j) hs l, acc + tabV (nL j) (folB j) (gnI j) hs l) else none)) := by
 have hHb := Qkx hj
 have hL := (Qj5 hj).2
 intro hs
 induction hs with
 | nil =>
  intro h N now l acc s hd hnow hh hN l0 l1 hl0 hl1 hp
  obtain ⟨N, rfl⟩ : ∃ M, N = M + 1 := ⟨N - 1, by omega⟩
  have hlen := Qf6 hd
  rw [Qeq, Qe8, show ((now.length : Int) == (j.Hours.length : Int)) = true from by simp; unfold nH at hh; omega, cond_true, Qq2 (by simp at hN; omega) hj]
  have := hp []
  rw [List.append_nil, Qku] at this
  rw [this]
  have hne : now.isEmpty = false := by
   cases now with
   | nil => unfold nH at hh hHb; simp at hnow; omega
   | cons => rfl
  have hc : decide ((0 + now.length) * 8 ≤ 140737488355328) = true := decide_eq_true (by omega)
  simp only [Option.map_some, outB, Option.bind_some, cond_true, mayV, Qpt, List.append_nil, tabV, updS, hne, Bool.not_false, chk, hc]
  cases s.1.isEmpty with
  | true => rfl
  | false =>
   simp only [cond_false, Bool.false_or]
   cases decide (acc + 0 > s.2) <;> rfl
 | cons H hs ih =>
  intro h N now l acc s hd hnow hh hN l0 l1 hl0 hl1 hp
  obtain ⟨N, rfl⟩ : ∃ M, N = M + 1 := ⟨N - 1, by omega⟩
  obtain ⟨hH, hd', hlt⟩ := Qen hd
  have hall := gn_all hj (hs := H :: hs) (by rw [← hd]; exact Qw2 h)
  have hlen : hs.length < 100 := by rw [← hd', List.length_drop]; unfold nH at hHb; omega
  have key := fun K => Qvs (N := N) hj (Qeq N) (now := now) (acc := acc) K hnow hd l0 l1 (fun k s hk hf => by
   refine ih (h + 1) N (now ++ [(k : Int)]) k (acc + gnI j H l k) s hd' (by simp [hnow]) (by unfold nH; omega) (by simp at hN; omega) (by omega) (by omega) (fun e => by omega) (fun m e => ?_) (fun p => ?_)
   ·obtain rfl : m = h := by omega
    rw [List.getElem?_append_right (by omega), hnow, Nat.sub_self]
    rfl
   ·rw [List.append_assoc, hp, List.singleton_append, Qku, hf, cond_true]
    cases Qku (folB j) (gnI j) hs k p with
    | none => rfl
    | some v => simp [Int.add_assoc]) N 0 s (by simp at hN; omega) (Nat.zero_le _)
  rw [Qeq, Qe8, show ((now.length : Int) == (j.Hours.length : Int)) = false from by simp; omega, cond_false]
  simp only [Qb0]
  rw [Nat.sub_zero, fmx_tab hall hlen] at key
  have key2 := fun K => key K
  cases h with
  | zero =>
   rw [show decide ((now.length : Int) > 0) = false from decide_eq_false (by omega), cond_false, ← hl0 rfl]
   refine (key _).trans ?_
   rw [Qpt]
   cases mayV (nL j) (folB j) (H :: hs) l <;> rfl
  | succ m =>
   have e2 : w64 ((now.length : Int) - 1) = (m : Int) := by rw [Qc3 (by omega) (by unfold nH at hHb; omega)]; omega
   rw [show decide ((now.length : Int) > 0) = true from decide_eq_true (by omega), cond_true, e2, Qdt (hl1 m rfl), Option.bind_some]
   refine (key _).trans ?_
   rw [Qpt]
   cases mayV (nL j) (folB j) (H :: hs) l <;> rfl
theorem planR_eq {N : Nat} {j : GJob} (hj : JobOK j) (hN : 500 ≤ N) : Qjj N j = some (bif canB j then (bestP j, bestV j) else ([], 0)) := by
 have hf := Qnk hj
 have hHb := Qkx hj
 unfold Qjj
 have := better_eq hj j.Hours 0 N [] j.First 0 ([], 0) rfl rfl (by omega) (by unfold nH at hHb; omega) hf.1 hf.2 (fun _ => rfl) (fun m e => by omega) (fun p => by
  unfold Qoa
  rw [List.nil_append]
  cases Qku (folB j) (gnI j) j.Hours j.First p <;> simp)
 dsimp only at this
 rw [this]
 unfold canB bestP bestV
 cases mayV (nL j) (folB j) j.Hours j.First with
 | false => rfl
 | true => simp [updS]
end Go.Proofs.Ytlhakkkjgdbdpaa
