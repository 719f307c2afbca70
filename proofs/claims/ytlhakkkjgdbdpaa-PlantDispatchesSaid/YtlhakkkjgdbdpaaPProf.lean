/-
  Plain laws of dispatching: the profit of any plan, and what ProveDispatch accepts. No conditions.
-/
import Derived.Test.YtlhakkkjgdbdpaaPDisp
namespace Go.Proofs.Ytlhakkkjgdbdpaa
open Go.RowKit
def Qmw (j : GJob) (p : List Int) : Option Int := Qjb (folB j) (gnI j) j.Hours j.First p
theorem Qqp {j : GJob} (hj : JobOK j) : 0 ≤ j.First ∧ j.First ≤ 11 := by
 have := hj.f0; have := hj.f1; have := hj.l1
 omega
theorem Qts {N : Nat} {j : GJob} (hj : JobOK j) {p : List Int} (hp : p.length = j.Hours.length) (K : Int → Option (Int × Bool)) : ∀ (n h : Nat) (b acc : Int), (j.Hours.drop h).length < n → 0 ≤ b → b ≤ 11 → -2000000000 * (h : Int) ≤ acc → acc ≤ 1000000000 * (h : Int) →
  Qcl N j p K n acc b h = match Qjb (folB j) (gnI j) (j.Hours.drop h) b (p.drop h) with | some v => K (acc + v) | none => some (0, false) := by
 have hH := hj.h1
 intro n
 induction n with
 | zero => intro h _ _ h; exact absurd h (Nat.not_lt_zero _)
 | succ n ih =>
  intro h b acc hn b0 b1 a0 a1
  rw [Qcl]
  cases hd : j.Hours.drop h with
  | nil =>
   have h1 := Qi6 hd
   rw [List.drop_eq_nil_of_le (by omega), show decide ((h : Int) < (p.length : Int)) = false from decide_eq_false (by omega)]
   simp [Qjb]
  | cons H hs =>
   obtain ⟨hH', hd', hlt⟩ := Qg9 hd
   obtain ⟨k, hk⟩ : ∃ k, p[h]? = some k := ⟨_, List.getElem?_eq_getElem (by omega)⟩
   have hdp : p.drop h = k :: p.drop (h + 1) := by
    rw [List.getElem?_eq_some_iff] at hk
    obtain ⟨hk1, hk2⟩ := hk
    rw [List.drop_eq_getElem_cons hk1, hk2]
   rw [show decide ((h : Int) < (p.length : Int)) = true from decide_eq_true (by omega), cond_true, Qgo hk, Option.bind_some, Qtw hj hH' b0 b1, hdp, Qjb]
   cases hf : folB j H b k with
   | false => simp
   | true =>
    have hk2 := Qvj H b k hf
    have hL := (Qhz hj).2
    have gb := Qwo hj (List.mem_of_getElem? hH') b k
    have e1 : w64 ((h : Int) + 1) = ((h + 1 : Nat) : Int) := Qc0 (by omega) (by omega)
    have e2 : w64 (acc + gnI j H b k) = acc + gnI j H b k := Qc0 (by omega) (by omega)
    simp only [cond_true, Option.bind_some, Bool.not_true, cond_false, e1, e2]
    rw [ih (h + 1) k _ (by rw [hd']; rw [hd] at hn; simp at hn; omega) hk2.1 (by omega) (by omega) (by omega), hd']
    cases Qjb (folB j) (gnI j) hs k (p.drop (h + 1)) with
    | none => simp
    | some v => simp [Int.add_assoc]
def outP (x : Option Int) : Int × Int := match x with | some v => (v, 0) | none => (0, 1)
theorem Qy0 {N : Nat} {j : GJob} {p : List Int} (hN : 300 ≤ N) : Qg5 N j p = some (bif jobB j then outP (Qmw j p) else (0, 1)) := by
 unfold Qg5
 simp only [Qcn, job_eq hN, Option.bind_some]
 cases hv : jobB j with
 | false => rfl
 | true =>
  have hj := jobOK hv
  simp only [Bool.not_true, cond_false, cond_true]
  by_cases hl : p.length = j.Hours.length
  ·rw [show ((p.length : Int) != (j.Hours.length : Int)) = false from by simp [hl], cond_false]
   unfold Qf5
   simp only [Qcn]
   have hf := Qqp hj
   have := Qts (N := N) hj hl (fun y => some (y, true)) N 0 j.First 0 (by have := hj.h1; simp; omega) hf.1 hf.2 (by simp) (by simp)
   rw [show ((0 : Nat) : Int) = 0 from rfl] at this
   rw [this, List.drop_zero, List.drop_zero]
   unfold Qmw
   cases Qjb (folB j) (gnI j) j.Hours j.First p with
   | none => rfl
   | some v => simp [outP]
  ·rw [show ((p.length : Int) != (j.Hours.length : Int)) = true from by simp; omega, cond_true]
   have : Qmw j p = none := by
    cases h : Qmw j p with
    | none => rfl
    | some v => exact absurd (Qr2 h) hl
   rw [this]
   rfl
def hr (j : GJob) (h : Nat) : GHour := j.Hours.getD h ⟨0, 0⟩
theorem prof_le {j : GJob} {p : List Int} {v : Int} (h : Qmw j p = some v) : canB j = true ∧ v ≤ Qt8 j := planV_le (L := nL j) Qvj h
end Go.Proofs.Ytlhakkkjgdbdpaa
