/-
  Plain laws on nets: ports and what is valid. No conditions but small sizes.
-/
import Derived.Test.YtmbhnllcfmiajaaPV6
namespace Go.Proofs.Ytmbhnllcfmiajaa
open Go.RowKit
def pq (p : GPort) : Int × Int := (p.Element, p.Outlet)
def Q44 (els : List GElement) (i : Nat) (lv : Int) (u : List (Int × Int)) (p : GPort) : Bool :=
 btw p.Element 0 ((i : Int) - 1) && (match getI els p.Element with | some y => btw p.Outlet 0 (outl y - 1) && decide (lv ≤ y.Level) | none => false) && !u.contains (pq p)
def Qlf (els : List GElement) (i : Nat) (lv : Int) : List (Int × Int) → List GPort → Bool
 | _, [] => true
 | u, p :: l => Q44 els i lv u p && Qlf els i lv (u ++ [pq p]) l
def Qvp (n : Int) (els : List GElement) : Nat → List (Int × Int) → List GElement → Bool
 | _, _, [] => true
 | i, u, x :: l => btw x.Level 0 (n - 1) && Qlf els i x.Level u x.From && Qvp n els (i + 1) (u ++ x.From.map pq) l
def netB (n : GNet) : Bool := tabB n.Table && btw n.Elements.length 1 16 && n.Elements.all Qj1 && Qvp n.Table.length n.Elements 0 [] n.Elements
structure Small (n : GNet) : Prop where
 t : n.Table.length ≤ 25
 e : n.Elements.length ≤ 18
 x : ∀ x ∈ n.Elements, x.From.length ≤ 25 ∧ x.Weights.length ≤ 25
theorem Qxi {x : GElement} (h : x.Weights.length ≤ 25) : 0 ≤ outl x ∧ outl x ≤ 25 := by
 unfold outl
 split
 ·omega
 ·split <;> omega
theorem Zdj {els : List GElement} {a : Int} {i : Nat} (h : btw a 0 ((i : Int) - 1) = true) (hi : i ≤ els.length) : ∃ y, getI els a = some y ∧ y ∈ els := by
 obtain ⟨h1, h2⟩ := Qge.1 h
 have hlt : a.toNat < els.length := by omega
 exact ⟨els[a.toNat], by unfold getI; rw [if_pos h1, List.getElem?_eq_getElem hlt], List.getElem_mem hlt⟩
section
variable {N : Nat} {n : GNet} (hs : Small n) (hN : 1001 ≤ N)
include hs hN
omit hN in
theorem Q1w {i : Nat} (hi : i < n.Elements.length) {x : GElement} (hx : x.From.length ≤ 25) (k : List (Int × Int) → Option Bool) : ∀ (m j : Nat) (u : List (Int × Int)), (x.From.drop j).length < m →
  Qdb N n i k x m j u = bif Qlf n.Elements i x.Level u (x.From.drop j) then k (u ++ (x.From.drop j).map pq) else some false := by
 intro m
 induction m with
 | zero => intro j _ h; exact absurd h (Nat.not_lt_zero _)
 | succ m ih =>
  intro j u h
  rw [Qdb]
  cases hd : x.From.drop j with
  | nil =>
   have := Qde hd
   simp [show ¬ ((j : Int) < x.From.length) from by omega, Qlf]
  | cons p l =>
   obtain ⟨hg, hd', hlt⟩ := Qcs hd
   have e0 := hs.e
   simp only [show decide ((j : Int) < x.From.length) = true from by simpa using hlt, cond_true, Qda hg, Option.bind_some, Qi4, Qlf, Q44]
   rw [Qbh (x := (i : Int) - 1) (by omega) (by omega)]
   cases hb : btw p.Element 0 ((i : Int) - 1) with
   | false => rfl
   | true =>
    obtain ⟨y, hy, hym⟩ := Zdj hb (Nat.le_of_lt hi)
    obtain ⟨o0, o1⟩ := Qxi (hs.x y hym).2
    simp only [Bool.not_true, cond_false, hy, Option.bind_some, Q47, Bool.true_and]
    rw [Qbh (x := outl y - 1) (by omega) (by omega)]
    cases hc : btw p.Outlet 0 (outl y - 1) with
    | false => rfl
    | true =>
     simp only [Bool.not_true, cond_false, Bool.true_and]
     show (bif u.contains (pq p) then some false else _) = _
     cases hu : u.contains (pq p) with
     | true => simp
     | false =>
      simp only [cond_false, Bool.not_false, Bool.and_true]
      by_cases hl : x.Level > y.Level
      ·rw [decide_eq_true hl, decide_eq_false (by omega)]; rfl
      ·rw [decide_eq_false hl, decide_eq_true (by omega), cond_false, Qbh (x := (j : Int) + 1) (by omega) (by omega), show (j : Int) + 1 = ((j + 1 : Nat) : Int) by omega,
        ih (j + 1) _ (by rw [hd']; rw [hd] at h; simp at h; omega), hd']
       have ea : addQ u (p.Element, p.Outlet) = u ++ [pq p] := by
        unfold addQ
        rw [show u.contains (p.Element, p.Outlet) = false from hu]; rfl
       rw [ea, Bool.true_and, List.map_cons, List.append_assoc]
       rfl
theorem Q6i (k : Unit → Option Bool) : ∀ (m i : Nat) (u : List (Int × Int)), (n.Elements.drop i).length < m →
  Qcw N n k m i u = bif Qvp n.Table.length n.Elements i u (n.Elements.drop i) then k () else some false := by
 intro m
 induction m with
 | zero => intro i _ h; exact absurd h (Nat.not_lt_zero _)
 | succ m ih =>
  intro i u h
  rw [Qcw]
  cases hd : n.Elements.drop i with
  | nil =>
   have := Qde hd
   simp [show ¬ ((i : Int) < n.Elements.length) from by omega, Qvp]
  | cons x l =>
   obtain ⟨hg, hd', hlt⟩ := Qcs hd
   have e0 := hs.e
   have e1 := hs.t
   have hx := hs.x x (List.mem_of_getElem? hg)
   simp only [show decide ((i : Int) < n.Elements.length) = true from by simpa using hlt, cond_true, Qcc, Qda hg, Option.bind_some, Qi4, Qvp]
   rw [Qbh (x := (n.Table.length : Int) - 1) (by omega) (by omega)]
   cases hb : btw x.Level 0 ((n.Table.length : Int) - 1) with
   | false => rfl
   | true =>
    have := Q1w (N := N) hs hlt hx.1 (fun y9 => Qcw N n k m (w64 ((i : Int) + 1)) y9) N 0 u (by simp; omega)
    rw [List.drop_zero] at this
    simp only [Bool.not_true, cond_false, Bool.true_and]
    refine this.trans ?_
    cases Qlf n.Elements i x.Level u x.From with
    | false => rfl
    | true =>
     rw [cond_true, Qbh (x := (i : Int) + 1) (by omega) (by omega), show (i : Int) + 1 = ((i + 1 : Nat) : Int) by omega, ih (i + 1) _ (by rw [hd']; rw [hd] at h; simp at h; omega), hd', Bool.true_and]
theorem Zfa : Qdu N n.Elements = some (n.Elements.all Qj1) := by
 have e0 := hs.e
 have hc : Qbg N n.Elements = some (n.Elements.any fun x => !Qj1 x) := by
  unfold Qbg Qbw Qcc
  have gen : ∀ (m j : Nat), (n.Elements.drop j).length < m → (Qaz N n.Elements (fun _ => some (-1)) m j).bind (fun x => some (decide (x ≥ 0))) = some ((n.Elements.drop j).any fun x => !Qj1 x) := by
   intro m
   induction m with
   | zero => intro j h; exact absurd h (Nat.not_lt_zero _)
   | succ m ih =>
    intro j h
    rw [Qaz]
    cases hd : n.Elements.drop j with
    | nil =>
     have := Qde hd
     simp [show ¬ ((j : Int) < n.Elements.length) from by omega]
    | cons x l =>
     obtain ⟨hg, hd', hlt⟩ := Qcs hd
     have hx := hs.x x (List.mem_of_getElem? hg)
     simp only [show decide ((j : Int) < n.Elements.length) = true from by simpa using hlt, cond_true, Qda hg, Option.bind_some, Qea, Q68 (show x.Weights.length ≤ 1000 by omega) hN, List.any_cons]
     cases Qj1 x with
     | false => simp
     | true =>
      rw [Bool.not_true, cond_false, Qbh (x := (j : Int) + 1) (by omega) (by omega), show (j : Int) + 1 = ((j + 1 : Nat) : Int) by omega, ih (j + 1) (by rw [hd']; rw [hd] at h; simp at h; omega), hd', Bool.false_or]
  have := gen N 0 (by simp; omega)
  rw [List.drop_zero] at this
  exact this
 unfold Qdu
 rw [hc, Option.bind_some, Qrd]
theorem Qxn : Qf2 N n = some (netB n) := by
 have e0 := hs.e
 have e1 := hs.t
 unfold Qf2 netB Qgp
 simp only [Qcc, Quj (show n.Table.length ≤ 1000 by omega) hN, Option.bind_some, Qi4, Zfa hs hN]
 cases tabB n.Table with
 | false => rfl
 | true =>
  simp only [Bool.not_true, cond_false, Option.bind_some, Bool.true_and, show ((0 : Int) != 0) = false from rfl]
  cases btw n.Elements.length 1 16 with
  | false => rfl
  | true =>
   cases n.Elements.all Qj1 with
   | false => rfl
   | true =>
    have := Q6i hs hN (fun _ => some true) N 0 [] (by simp; omega)
    rw [List.drop_zero] at this
    simp only [Bool.not_true, cond_false, Bool.true_and]
    refine this.trans ?_
    cases Qvp n.Table.length n.Elements 0 [] n.Elements <;> rfl
omit hs in
omit hs hN in
end
theorem Q81 (N : Nat) (n : GNet) (k : Unit → Option Bool) (hl : (n.Elements.length : Int) ≤ 9223372036854775807) : ∀ (m i : Nat), (n.Elements.drop i).length < m →
  Qew N n k m i = bif (n.Elements.drop i).all (fun x => decide (x.From.length ≤ 25) && decide (x.Weights.length ≤ 25)) then k () else some false := by
 intro m
 induction m with
 | zero => intro i h; exact absurd h (Nat.not_lt_zero _)
 | succ m ih =>
  intro i h
  rw [Qew]
  cases hd : n.Elements.drop i with
  | nil =>
   have := Qde hd
   simp [show ¬ ((i : Int) < n.Elements.length) from by omega]
  | cons x l =>
   obtain ⟨hg, hd', hlt⟩ := Qcs hd
   simp only [show decide ((i : Int) < n.Elements.length) = true from by simpa using hlt, cond_true, Qda hg, Option.bind_some, List.all_cons]
   by_cases h1 : (x.From.length : Int) > 25
   ·rw [decide_eq_true h1, decide_eq_false (show ¬ x.From.length ≤ 25 by omega)]; rfl
   ·by_cases h2 : (x.Weights.length : Int) > 25
    ·rw [decide_eq_false h1, decide_eq_true h2, decide_eq_false (show ¬ x.Weights.length ≤ 25 by omega)]; simp
    ·rw [decide_eq_false h1, decide_eq_false h2, decide_eq_true (show x.From.length ≤ 25 by omega), decide_eq_true (show x.Weights.length ≤ 25 by omega), cond_false, cond_false, Qbh (x := (i : Int) + 1) (by omega) (by omega), show (i : Int) + 1 = ((i + 1 : Nat) : Int) by omega, ih (i + 1) (by rw [hd']; rw [hd] at h; simp at h; omega), hd']
     rfl
theorem Zgk {N : Nat} {n : GNet} {ws : List GStream} (hl : (n.Elements.length : Int) ≤ 9223372036854775807) (hN : n.Elements.length < N) : (Qi6 N n ws = some false) ∨ (Qi6 N n ws = some true ∧ Small n ∧ ws.length ≤ 25) := by
 unfold Qi6
 simp only [Qcc]
 have := Q81 N n (fun _ => bif (decide ((n.Elements.length : Int) ≤ 18)) then bif (decide ((n.Table.length : Int) ≤ 25)) then some (decide ((ws.length : Int) ≤ 25)) else some false else some false) hl N 0 (by simpa using hN)
 rw [List.drop_zero, show ((0 : Nat) : Int) = 0 from rfl] at this
 rw [this]
 cases ha : n.Elements.all (fun x => decide (x.From.length ≤ 25) && decide (x.Weights.length ≤ 25)) with
 | false => exact .inl rfl
 | true =>
  rw [cond_true]
  by_cases h1 : (n.Elements.length : Int) ≤ 18
  ·by_cases h2 : (n.Table.length : Int) ≤ 25
   ·by_cases h3 : (ws.length : Int) ≤ 25
    ·refine .inr ⟨by rw [decide_eq_true h1, decide_eq_true h2, decide_eq_true h3]; rfl, ⟨by omega, by omega, fun x hx => ?_⟩, by omega⟩
     have := List.all_eq_true.1 ha x hx
     simpa using this
    ·exact .inl (by rw [decide_eq_true h1, decide_eq_true h2, decide_eq_false h3]; rfl)
   ·exact .inl (by rw [decide_eq_true h1, decide_eq_false h2]; rfl)
  ·exact .inl (by rw [decide_eq_false h1]; rfl)
theorem Q5f (N : Nat) (x : GElement) (k : List GElement × List GPort × List Int → Option GNet) (hl : x.From.length ≤ 1000) (a : List GElement) (w : List Int) : ∀ (m j : Nat) (acc : List GPort), (x.From.drop j).length < m → acc.length = j →
  Qeu N x k m j a acc w = k (a, acc ++ x.From.drop j, w) := by
 intro m
 induction m with
 | zero => intro j _ h; exact absurd h (Nat.not_lt_zero _)
 | succ m ih =>
  intro j acc h ha
  rw [Qeu]
  cases hd : x.From.drop j with
  | nil =>
   have := Qde hd
   simp [show ¬ ((j : Int) < x.From.length) from by omega]
  | cons p l =>
   obtain ⟨hg, hd', hlt⟩ := Qcs hd
   simp only [show decide ((j : Int) < x.From.length) = true from by simpa using hlt, cond_true, Qda hg, Option.bind_some, chk]
   rw [show decide ((acc.length + [p].length) * 16 ≤ 140737488355328) = true by simp; omega, cond_true, Qbh (x := (j : Int) + 1) (by omega) (by omega), show (j : Int) + 1 = ((j + 1 : Nat) : Int) by omega,
    ih (j + 1) _ (by rw [hd']; rw [hd] at h; simp at h; omega) (by simp [ha]), hd', List.append_assoc]
   rfl
theorem Q8s {N : Nat} {n : GNet} (hs : Small n) (hN : 1001 ≤ N) (k : List GElement → Option GNet) : ∀ (m i : Nat) (acc : List GElement), (n.Elements.drop i).length < m → acc.length = i →
  Qev N n k m i acc = k (acc ++ n.Elements.drop i) := by
 intro m
 induction m with
 | zero => intro i _ h; exact absurd h (Nat.not_lt_zero _)
 | succ m ih =>
  intro i acc h ha
  rw [Qev]
  cases hd : n.Elements.drop i with
  | nil =>
   have := Qde hd
   simp [show ¬ ((i : Int) < n.Elements.length) from by omega]
  | cons x l =>
   obtain ⟨hg, hd', hlt⟩ := Qcs hd
   have e0 := hs.e
   have hx := hs.x x (List.mem_of_getElem? hg)
   simp only [show decide ((i : Int) < n.Elements.length) = true from by simpa using hlt, cond_true, Qda hg, Option.bind_some, chk, Qcc]
   rw [show decide ((([] : List Int).length + x.Weights.length) * 8 ≤ 140737488355328) = true by simp; omega, cond_true]
   refine (Q5f N x _ (by omega) acc ([] ++ x.Weights) N 0 [] (by simp; omega) rfl).trans ?_
   dsimp only
   rw [List.drop_zero, List.nil_append, List.nil_append, show decide ((acc.length + [(⟨x.Kind, x.From, x.Level, x.Amount, x.Wide, x.Narrow, x.Weights⟩ : GElement)].length) * 88 ≤ 140737488355328) = true by simp; omega, cond_true, Qbh (x := (i : Int) + 1) (by omega) (by omega), show (i : Int) + 1 = ((i + 1 : Nat) : Int) by omega,
    ih (i + 1) _ (by rw [hd']; rw [hd] at h; simp at h; omega) (by simp [ha]), hd', List.append_assoc]
   rfl
theorem Zgf {N : Nat} {n : GNet} (hs : Small n) (hN : 1001 ≤ N) : Qh0 N n = some n := by
 have e0 := hs.e
 have e1 := hs.t
 unfold Qh0
 rw [Q8d (by omega) hN, Option.bind_some, Qcc]
 refine (Q8s hs hN _ N 0 [] (by simp; omega) rfl).trans ?_
 rw [List.drop_zero, List.nil_append]
theorem Zde (N : Nat) {l : List Int} (hl : l.length ≤ 1000) : Qhz N l = some l := by
 unfold Qhz chk
 rw [show decide ((([] : List Int).length + l.length) * 8 ≤ 140737488355328) = true by simp; omega, cond_true, List.nil_append]
end Go.Proofs.Ytmbhnllcfmiajaa
