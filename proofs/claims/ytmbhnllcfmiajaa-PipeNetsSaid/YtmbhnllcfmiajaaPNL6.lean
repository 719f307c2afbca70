/-
  PipeNets: the plain law. No conditions.
-/
import Derived.Test.YtmbhnllcfmiajaaPE6
import Derived.Test.YtmbhnllcfmiajaaPNet
import Derived.Test.YtmbhnllcfmiajaaX7
namespace Go.Proofs.Ytmbhnllcfmiajaa
open Go.RowKit
theorem Q0s (N : Nat) (s : List Int) (k : Unit → Option Bool) (hl : s.length ≤ 1000) : ∀ (m i : Nat), (s.drop i).length < m →
  Qc6 N k s m i = bif (s.drop i).all (fun x => btw x 0 1000000000000) then k () else some false := by
 intro m
 induction m with
 | zero => intro i h; exact absurd h (Nat.not_lt_zero _)
 | succ m ih =>
  intro i h
  rw [Qc6]
  cases hd : s.drop i with
  | nil =>
   have := Qds hd
   simp [show ¬ ((i : Int) < s.length) from by omega]
  | cons x l =>
   obtain ⟨hg, hd', hlt⟩ := Qc9 hd
   simp only [show decide ((i : Int) < s.length) = true from by simpa using hlt, cond_true, Qeb hg, Option.bind_some, Q01, List.all_cons]
   cases btw x 0 1000000000000 with
   | false => rfl
   | true => rw [Bool.not_true, cond_false, Qej (x := (i : Int) + 1) (by omega) (by omega), show (i : Int) + 1 = ((i + 1 : Nat) : Int) by omega, ih (i + 1) (by rw [hd']; rw [hd] at h; simp at h; omega), hd', Bool.true_and]
theorem Q0t {N : Nat} {n : GNet} {s : List Int} (hl : s.length ≤ 1000) (hN : 1001 ≤ N) : Qgc N n s = some (stB n s) := by
 unfold Qgc stB
 simp only [Qbz]
 have := Q0s N s (fun _ => some ((s.length : Int) == (n.Elements.length : Int))) hl N 0 (by simp; omega)
 rw [List.drop_zero] at this
 refine this.trans ?_
 have e : ((s.length : Int) == (n.Elements.length : Int)) = decide (s.length = n.Elements.length) := by
  by_cases h : s.length = n.Elements.length
  ·rw [h]; simp
  ·rw [decide_eq_false h, beq_eq_false_iff_ne]; omega
 rw [e]
 cases s.all fun x => btw x 0 1000000000000 <;> simp
theorem Q28 (N : Nat) {x : GElement} (hx : Qhf x = true) {d : Int} (h0 : 0 ≤ d) (h1 : d ≤ 9000000000000000000) : Qiy N x d = some (widI x d) := by
 obtain ⟨a, b, c, e, f, g, _⟩ := Q8s hx h0 h1
 unfold Qiy widI
 rw [a, b, f, g]
 rfl
section
variable {N : Nat} {n : GNet} (hs : Small n) (hN : 1001 ≤ N)
include hs
theorem Qu4 (k : List GPort → Option (List GPort)) : ∀ (m i : Nat) (u : List GPort), (n.Elements.drop i).length < m → u.length ≤ 25 * i →
  Qeg N n k m u i = k (u ++ (n.Elements.drop i).flatMap fun x => x.From) := by
 intro m
 induction m with
 | zero => intro i _ h; exact absurd h (Nat.not_lt_zero _)
 | succ m ih =>
  intro i u h hu
  rw [Qeg]
  cases hd : n.Elements.drop i with
  | nil =>
   have := Qds hd
   simp [show ¬ ((i : Int) < n.Elements.length) from by omega]
  | cons x l =>
   obtain ⟨hg, hd', hlt⟩ := Qc9 hd
   have e0 := hs.e
   have hx := hs.x x (List.mem_of_getElem? hg)
   simp only [show decide ((i : Int) < n.Elements.length) = true from by simpa using hlt, cond_true, Qeb hg, Option.bind_some, chk]
   rw [show decide ((u.length + x.From.length) * 16 ≤ 140737488355328) = true by simp; omega, cond_true, Qej (x := (i : Int) + 1) (by omega) (by omega), show (i : Int) + 1 = ((i + 1 : Nat) : Int) by omega, ih (i + 1) _ (by rw [hd']; rw [hd] at h; simp at h; omega) (by simp; omega), hd', List.flatMap_cons, List.append_assoc]
include hN
theorem Qtl {i : Nat} {x : GElement} (hx : n.Elements[i]? = some x) (u : List GPort) (hu : u.length ≤ 1000) (k : List GPort × List GPort → Option (List GPort)) : ∀ (m j : Nat) (acc : List GPort), (outl x).toNat - j < m → j ≤ (outl x).toNat → acc.length ≤ 25 * i + j →
  Qdu N n i k m u acc j = k (u, acc ++ ((List.range' j ((outl x).toNat - j)).map (fun k : Nat => (⟨(i : Int), (k : Int)⟩ : GPort))).filter fun p => !(u.map pq).contains (pq p)) := by
 intro m
 induction m with
 | zero => intro j _ h; exact absurd h (Nat.not_lt_zero _)
 | succ m ih =>
  intro j acc h hj ha
  have e0 := hs.e
  have hi : i < n.Elements.length := (List.getElem?_eq_some_iff.1 hx).1
  obtain ⟨o0, o1⟩ := Qox (hs.x x (List.mem_of_getElem? hx)).2
  rw [Qdu]
  simp only [Qeb hx, Option.bind_some, Q3s]
  by_cases hlt : j < (outl x).toNat
  ·rw [show decide ((j : Int) < outl x) = true by rw [decide_eq_true_eq]; omega, cond_true, Qzu hN hu, Option.bind_some, Qej (x := (j : Int) + 1) (by omega) (by omega), show (j : Int) + 1 = ((j + 1 : Nat) : Int) by omega, show (outl x).toNat - j = ((outl x).toNat - (j + 1)) + 1 by omega, List.range'_succ, List.map_cons, List.filter_cons]
   cases hc : (u.map pq).contains (pq ⟨(i : Int), (j : Int)⟩) with
   | true =>
    simp only [Bool.not_true, cond_false]
    rw [ih (j + 1) acc (by omega) (by omega) (by omega)]
    simp
   | false =>
    simp only [Bool.not_false, cond_true, chk]
    rw [show decide ((acc.length + [(⟨(i : Int), (j : Int)⟩ : GPort)].length) * 16 ≤ 140737488355328) = true by simp; omega, cond_true, ih (j + 1) _ (by omega) (by omega) (by simp; omega)]
    simp
  ·rw [show decide ((j : Int) < outl x) = false by rw [decide_eq_false_iff_not]; omega, cond_false, show (outl x).toNat - j = 0 by omega]
   simp
theorem Qu5 (u : List GPort) (hu : u.length ≤ 1000) (k : List GPort → Option (List GPort)) : ∀ (m i : Nat) (acc : List GPort), (n.Elements.drop i).length < m → acc.length ≤ 25 * i →
  Qeh N n k m u acc i = k (acc ++ (Qkb i (n.Elements.drop i)).filter fun p => !(u.map pq).contains (pq p)) := by
 intro m
 induction m with
 | zero => intro i _ h; exact absurd h (Nat.not_lt_zero _)
 | succ m ih =>
  intro i acc h ha
  rw [Qeh]
  cases hd : n.Elements.drop i with
  | nil =>
   have := Qds hd
   simp [show ¬ ((i : Int) < n.Elements.length) from by omega, Qkb]
  | cons x l =>
   obtain ⟨hg, hd', hlt⟩ := Qc9 hd
   have e0 := hs.e
   obtain ⟨o0, o1⟩ := Qox (hs.x x (List.mem_of_getElem? hg)).2
   simp only [show decide ((i : Int) < n.Elements.length) = true from by simpa using hlt, cond_true, Qbz]
   have hlen := List.length_filter_le (fun p => !(u.map pq).contains (pq p)) ((List.range' 0 (outl x).toNat).map (fun k : Nat => (⟨(i : Int), (k : Int)⟩ : GPort)))
   simp only [List.length_map, List.length_range'] at hlen
   refine (Qtl hs hN hg u hu _ N 0 acc (by omega) (Nat.zero_le _) (by omega)).trans ?_
   dsimp only
   rw [Qej (x := (i : Int) + 1) (by omega) (by omega), show (i : Int) + 1 = ((i + 1 : Nat) : Int) by omega, ih (i + 1) _ (by rw [hd']; rw [hd] at h; simp at h; omega) (by rw [List.length_append, Nat.sub_zero]; omega), hd', Qkb, List.filter_append, Nat.sub_zero, List.range_eq_range', List.append_assoc]
theorem Q0v : Qjw N n = some (Qvk n) := by
 have e0 := hs.e
 unfold Qjw
 simp only [Qbz]
 refine (Qu4 hs _ N 0 [] (by simp; omega) (by simp)).trans ?_
 rw [List.drop_zero, List.nil_append]
 have hu : (n.Elements.flatMap fun x => x.From).length ≤ 1000 := by
  have : ∀ l : List GElement, (∀ x ∈ l, x.From.length ≤ 25) → (l.flatMap fun x => x.From).length ≤ 25 * l.length := by
   intro l
   induction l with
   | nil => intro _; simp
   | cons a l ih =>
    intro h
    have h1 := ih fun x hx => h x (List.mem_cons_of_mem _ hx)
    have h2 := h a List.mem_cons_self
    simp only [List.flatMap_cons, List.length_append, List.length_cons]
    omega
  have := this n.Elements fun x hx => (hs.x x hx).1
  omega
 have hm : ((n.Elements.flatMap fun x => x.From).map pq) = Qta n := by
  unfold Qta
  rw [List.map_flatMap]
 refine (Qu5 hs hN _ hu _ N 0 [] (by simp; omega) (by simp)).trans ?_
 rw [List.drop_zero, List.nil_append, hm]
 rfl
end
def Qrt (n : GNet) (s : List Int) : List Int := List.zipWith widI n.Elements s
theorem Q3g {n : GNet} {s : List Int} (h : stB n s = true) {i : Nat} {x : GElement} (hx : n.Elements[i]? = some x) : ∃ d, s[i]? = some d ∧ 0 ≤ d ∧ d ≤ 1000000000000 := by
 unfold stB at h
 simp only [Bool.and_eq_true, decide_eq_true_eq] at h
 have hi := (List.getElem?_eq_some_iff.1 hx).1
 have hi' : i < s.length := by omega
 obtain ⟨a, b⟩ := Qjc.1 (List.all_eq_true.1 h.2 s[i] (List.getElem_mem hi'))
 exact ⟨s[i], List.getElem?_eq_getElem hi', a, b⟩
section
variable {N : Nat} {n : GNet} (hs : Small n) (hv : NetV n) (hN : 1001 ≤ N) {s : List Int} (hst : stB n s = true)
include hs hv hst
theorem Q6w (k : List Int → Option (List Int × Int)) : ∀ (m i : Nat) (acc : List Int), (n.Elements.drop i).length < m → acc.length = i →
  Qd8 N n s k m acc i = k (acc ++ List.zipWith widI (n.Elements.drop i) (s.drop i)) := by
 intro m
 induction m with
 | zero => intro i _ h; exact absurd h (Nat.not_lt_zero _)
 | succ m ih =>
  intro i acc h ha
  rw [Qd8]
  cases hd : n.Elements.drop i with
  | nil =>
   have := Qds hd
   simp [show ¬ ((i : Int) < n.Elements.length) from by omega]
  | cons x l =>
   obtain ⟨hg, hd', hlt⟩ := Qc9 hd
   have e0 := hs.e
   obtain ⟨d, hgd, d0, d1⟩ := Q3g hst hg
   have hds : s.drop i = d :: s.drop (i + 1) := by
    have hi := (List.getElem?_eq_some_iff.1 hgd).1
    rw [List.drop_eq_getElem_cons hi]
    rw [List.getElem?_eq_getElem hi] at hgd
    cases hgd; rfl
   simp only [show decide ((i : Int) < n.Elements.length) = true from by simpa using hlt, cond_true, Qeb hg, Qeb hgd, Option.bind_some, Q29 N (hv.alone x (List.mem_of_getElem? hg)) d0 (show d ≤ 9000000000000000000 by omega), chk]
   rw [show decide ((acc.length + [widI x d].length) * 8 ≤ 140737488355328) = true by simp; omega, cond_true, Qej (x := (i : Int) + 1) (by omega) (by omega), show (i : Int) + 1 = ((i + 1 : Nat) : Int) by omega, ih (i + 1) _ (by rw [hd']; rw [hd] at h; simp at h; omega) (by simp [ha]), hd', hds, List.zipWith_cons_cons, List.append_assoc]
   rfl
end
theorem Q27 {N : Nat} {n : GNet} (hs : Small n) (hN : 1001 ≤ N) {s : List Int} (hl : s.length ≤ 1000) : Qi2 N n s = some (bif netB n && stB n s then (Qrt n s, 0) else ([], 1)) := by
 have e0 := hs.e
 unfold Qi2
 rw [Q3f hs hN hl, Option.bind_some]
 cases hb : netB n && stB n s with
 | false => rfl
 | true =>
  rw [Bool.and_eq_true] at hb
  simp only [cond_true, show ((0 : Int) != 0) = false from rfl, cond_false, Qbz]
  refine (Q6w hs (Qwz hb.1) hb.2 _ N 0 [] (by simp; omega) rfl).trans ?_
  rw [List.drop_zero, List.drop_zero, List.nil_append]
  rfl
theorem Q42 {N : Nat} {n : GNet} (hs : Small n) (hv : NetV n) {s : List Int} (hst : stB n s = true) (k : Unit → Option Bool) : ∀ (m i : Nat), (n.Elements.drop i).length < m → i ≤ n.Elements.length →
  Qdg N n s (Qrt n s, 0) k m i = k () := by
 have hlen : (Qrt n s).length = n.Elements.length := by
  unfold stB at hst
  simp only [Bool.and_eq_true, decide_eq_true_eq] at hst
  simp [Qrt, hst.1]
 intro m
 induction m with
 | zero => intro i h; exact absurd h (Nat.not_lt_zero _)
 | succ m ih =>
  intro i h hi
  rw [Qdg]
  cases hd : n.Elements.drop i with
  | nil =>
   have := Qds hd
   simp [show ¬ ((i : Int) < (Qrt n s).length) from by omega]
  | cons x l =>
   obtain ⟨hg, hd', hlt⟩ := Qc9 hd
   have e0 := hs.e
   obtain ⟨d, hgd, d0, d1⟩ := Q3g hst hg
   have hw : (Qrt n s)[i]? = some (widI x d) := by unfold Qrt; rw [List.getElem?_zipWith, hg, hgd]
   simp only [show decide ((i : Int) < ((Qrt n s).length : Int)) = true from by rw [decide_eq_true_eq]; omega, cond_true, Qeb hg, Qeb hgd, Qeb hw, Option.bind_some, Q28 N (hv.alone x (List.mem_of_getElem? hg)) d0 (show d ≤ 9000000000000000000 by omega)]
   rw [show (widI x d != widI x d) = false by simp, cond_false, Qej (x := (i : Int) + 1) (by omega) (by omega), show (i : Int) + 1 = ((i + 1 : Nat) : Int) by omega, ih (i + 1) (by rw [hd']; rw [hd] at h; simp at h; omega) (by omega)]
theorem Q43 {N : Nat} {l : List GPort} {e : Int} (hl : l.length ≤ 1000) (k : Unit → Option Bool) : ∀ (m i : Nat), (l.drop i).length < m →
  Qdf N (l, e) l k m i = k () := by
 intro m
 induction m with
 | zero => intro i h; exact absurd h (Nat.not_lt_zero _)
 | succ m ih =>
  intro i h
  rw [Qdf]
  cases hd : l.drop i with
  | nil =>
   have := Qds hd
   simp [show ¬ ((i : Int) < l.length) from by omega]
  | cons x q =>
   obtain ⟨hg, hd', hlt⟩ := Qc9 hd
   simp only [show decide ((i : Int) < l.length) = true from by simpa using hlt, cond_true, Qeb hg, Option.bind_some]
   rw [show (x.Element != x.Element) = false by simp, show (x.Outlet != x.Outlet) = false by simp, cond_false, cond_false, Qej (x := (i : Int) + 1) (by omega) (by omega), show (i : Int) + 1 = ((i + 1 : Nat) : Int) by omega, ih (i + 1) (by rw [hd']; rw [hd] at h; simp at h; omega)]
theorem Q45 {N : Nat} {n : GNet} (hs : Small n) (hN : 1001 ≤ N) : Qgv N n = some (bif netB n then 0 else 1) := by
 unfold Qgv
 rw [Qtp hs hN]
 cases netB n <;> rfl
theorem Q4w {n : GNet} (hs : Small n) : (Qvk n).length ≤ 450 := by
 have e0 := hs.e
 have h2 := Qou n.Elements 0 fun x hx => (hs.x x hx).2
 have h3 := List.length_filter_le (fun p => !(Qta n).contains (pq p)) (Qkb 0 n.Elements)
 unfold Qvk
 omega
theorem Q64 (n : GNet) (s : List Int) (gn : Q4e n) (_ : Qw5 s) : Qh8 (n.Elements.length + s.length + 2000) n s = some true := by
 generalize hNN : n.Elements.length + s.length + 2000 = N
 have hN : 1001 ≤ N := by omega
 have hl : (n.Elements.length : Int) ≤ 9223372036854775807 := by
  have := gn.2.1
  rw [Q35] at this
  omega
 unfold Qh8
 simp only [Q3a, Option.bind_some, Qbz]
 rcases Zes (N := N) (n := n) (ws := []) hl (by omega) with e | ⟨e, hs, _⟩
 ·rw [e, Option.bind_some, Bool.not_false, cond_true]
 rw [e, Option.bind_some, Bool.not_true, cond_false]
 by_cases h25 : (s.length : Int) > 25
 ·rw [decide_eq_true h25, cond_true]
 rw [decide_eq_false h25, cond_false]
 simp only [Zeo hs hN, Zbp N (show s.length ≤ 1000 by omega), Q27 hs hN (show s.length ≤ 1000 by omega), Zbl hs hN, Q45 hs hN, Option.bind_some]
 cases hb : netB n with
 | false =>
  rw [Q7n hs hN hb]
  simp only [Option.bind_some, Bool.not_false, cond_true, Bool.false_and, cond_false, List.length_nil, show w64 (((0 : Nat) : Int) + ((0 : Nat) : Int)) = 0 from by decide, beq_self_eq_true]
 | true =>
  have hv := Qwz hb
  have hE := Q4w hs
  rw [Q4v hs hN hb]
  simp only [Option.bind_some, Bool.not_true, cond_false, Bool.true_and, Q0v hs hN, cond_true, show ((0 : Int) != 0) = false from rfl, bne_self_eq_false, Q0t (N := N) (n := n) (show s.length ≤ 1000 by omega) hN]
  refine (Q43 (by omega) _ N 0 (by simp; omega)).trans ?_
  cases hst : stB n s with
  | false => rfl
  | true =>
   have hlen : (Qrt n s).length = s.length := by
    have hst' := hst
    unfold stB at hst'
    simp only [Bool.and_eq_true, decide_eq_true_eq] at hst'
    simp [Qrt, hst'.1]
   simp only [Bool.not_true, cond_false, cond_true, bne_self_eq_false, hlen]
   have e0 := hs.e
   exact Q42 hs hv hst _ N 0 (by simp; omega) (Nat.zero_le _)
end Go.Proofs.Ytmbhnllcfmiajaa
