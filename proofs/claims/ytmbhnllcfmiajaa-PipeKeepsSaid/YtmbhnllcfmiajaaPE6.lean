/-
  Plain laws on nets: open ends, states, widths. No conditions but small sizes.
-/
import Derived.Test.YtmbhnllcfmiajaaPN6
import Derived.Test.YtmbhnllcfmiajaaPOpn
namespace Go.Proofs.Ytmbhnllcfmiajaa
open Go.RowKit
structure NetV (n : GNet) : Prop where
 tab : tabB n.Table = true
 len : 1 ≤ n.Elements.length ∧ n.Elements.length ≤ 16
 alone : ∀ x ∈ n.Elements, Qj1 x = true
 level : ∀ x ∈ n.Elements, 0 ≤ x.Level ∧ x.Level ≤ (n.Table.length : Int) - 1
 port : ∀ (i : Nat) x p, n.Elements[i]? = some x → p ∈ x.From → 0 ≤ p.Element ∧ p.Element < i ∧ ∃ y, n.Elements[p.Element.toNat]? = some y ∧ 0 ≤ p.Outlet ∧ p.Outlet < outl y ∧ x.Level ≤ y.Level
 dist : (n.Elements.flatMap fun x => x.From.map pq).Nodup
theorem Qp6 {els : List GElement} {i : Nat} {lv : Int} : ∀ {l : List GPort} {u : List (Int × Int)}, Qlf els i lv u l = true → u.Nodup →
  (u ++ l.map pq).Nodup ∧ ∀ p ∈ l, 0 ≤ p.Element ∧ p.Element < i ∧ ∃ y, els[p.Element.toNat]? = some y ∧ 0 ≤ p.Outlet ∧ p.Outlet < outl y ∧ lv ≤ y.Level
 | [], u, _, hu => ⟨by simpa using hu, by simp⟩
 | p :: l, u, h, hu => by
  rw [Qlf, Bool.and_eq_true] at h
  obtain ⟨h1, h2⟩ := h
  rw [Q44, Bool.and_eq_true, Bool.and_eq_true] at h1
  obtain ⟨⟨h3, h4⟩, h5⟩ := h1
  have hn : pq p ∉ u := by simpa using h5
  have hu' : (u ++ [pq p]).Nodup := by
   rw [List.nodup_append]
   exact ⟨hu, by simp, fun a ha b hb => by simp at hb; subst hb; exact fun e => hn (e ▸ ha)⟩
  obtain ⟨k1, k2⟩ := Qp6 h2 hu'
  refine ⟨by rw [List.map_cons]; rw [List.append_assoc] at k1; exact k1, fun q hq => ?_⟩
  rcases List.mem_cons.1 hq with rfl | hq
  ·obtain ⟨b1, b2⟩ := Qge.1 h3
   cases hg : getI els q.Element with
   | none => rw [hg] at h4; cases h4
   | some y =>
    rw [hg] at h4
    simp only [Bool.and_eq_true, decide_eq_true_eq] at h4
    obtain ⟨c1, c2⟩ := Qge.1 h4.1
    exact ⟨b1, by omega, y, (Qvh hg).2, c1, by omega, h4.2⟩
  ·exact k2 q hq
theorem Qvo {t : Int} {els : List GElement} : ∀ {l : List GElement} {i : Nat} {u : List (Int × Int)}, Qvp t els i u l = true → u.Nodup →
  (u ++ l.flatMap fun x => x.From.map pq).Nodup ∧ (∀ x ∈ l, 0 ≤ x.Level ∧ x.Level ≤ t - 1) ∧ ∀ (j : Nat) x p, l[j]? = some x → p ∈ x.From → 0 ≤ p.Element ∧ p.Element < (i : Int) + j ∧ ∃ y, els[p.Element.toNat]? = some y ∧ 0 ≤ p.Outlet ∧ p.Outlet < outl y ∧ x.Level ≤ y.Level
 | [], i, u, _, hu => ⟨by simpa using hu, by simp, fun j x p h => by simp at h⟩
 | x :: l, i, u, h, hu => by
  rw [Qvp, Bool.and_eq_true, Bool.and_eq_true] at h
  obtain ⟨⟨h1, h2⟩, h3⟩ := h
  obtain ⟨k1, k2⟩ := Qp6 h2 hu
  obtain ⟨m1, m2, m3⟩ := Qvo h3 k1
  refine ⟨by rw [List.flatMap_cons]; rw [List.append_assoc] at m1; exact m1, fun y hy => ?_, fun j y p hj hp => ?_⟩
  ·rcases List.mem_cons.1 hy with rfl | hy
   ·exact Qge.1 h1
   ·exact m2 y hy
  ·cases j with
   | zero =>
    simp at hj
    subst hj
    obtain ⟨a, b, c⟩ := k2 p hp
    exact ⟨a, by omega, c⟩
   | succ j =>
    obtain ⟨a, b, c⟩ := m3 j y p (by simpa using hj) hp
    exact ⟨a, by omega, c⟩
theorem Q5e {n : GNet} (h : netB n = true) : NetV n := by
 unfold netB at h
 simp only [Bool.and_eq_true] at h
 obtain ⟨⟨⟨h1, h2⟩, h3⟩, h4⟩ := h
 obtain ⟨k1, k2, k3⟩ := Qvo h4 List.nodup_nil
 have := Qge.1 h2
 exact ⟨h1, ⟨by omega, by omega⟩, fun x hx => List.all_eq_true.1 h3 x hx, k2, fun i x p hi hp => by
  obtain ⟨a, b, c⟩ := k3 i x p hi hp
  exact ⟨a, by omega, c⟩, by simpa using k1⟩
def Qjx : Nat → List GElement → List GPort
 | _, [] => []
 | i, x :: l => (List.range (outl x).toNat).map (fun k : Nat => (⟨(i : Int), (k : Int)⟩ : GPort)) ++ Qjx (i + 1) l
def Qpv (n : GNet) : List (Int × Int) := n.Elements.flatMap fun x => x.From.map pq
def Qix (n : GNet) : List GPort := (Qjx 0 n.Elements).filter fun p => !(Qpv n).contains (pq p)
section
variable {N : Nat} {n : GNet} (hs : Small n) (hv : NetV n) (hN : 1001 ≤ N)
theorem Q1k (x : GElement) (hx : x.From.length ≤ 1000) (k : List (Int × Int) → Option (List (Int × Int))) : ∀ (m j : Nat) (u : List (Int × Int)), (x.From.drop j).length < m → (u ++ (x.From.drop j).map pq).Nodup →
  Qc4 N k x m j u = k (u ++ (x.From.drop j).map pq) := by
 intro m
 induction m with
 | zero => intro j _ h; exact absurd h (Nat.not_lt_zero _)
 | succ m ih =>
  intro j u h hu
  rw [Qc4]
  cases hd : x.From.drop j with
  | nil =>
   have := Qde hd
   simp [show ¬ ((j : Int) < x.From.length) from by omega]
  | cons p l =>
   obtain ⟨hg, hd', hlt⟩ := Qcs hd
   rw [hd] at hu
   have hn : u.contains (p.Element, p.Outlet) = false := by
    rw [← Bool.not_eq_true, List.contains_iff_mem]
    intro hm
    rw [List.nodup_append] at hu
    exact hu.2.2 _ hm (pq p) (by simp) rfl
   have ea : addQ u (p.Element, p.Outlet) = u ++ [pq p] := by
    unfold addQ
    rw [hn]; rfl
   simp only [show decide ((j : Int) < x.From.length) = true from by simpa using hlt, cond_true, Qda hg, Option.bind_some, ea]
   rw [Qbh (x := (j : Int) + 1) (by omega) (by omega), show (j : Int) + 1 = ((j + 1 : Nat) : Int) by omega, ih (j + 1) _ (by rw [hd']; rw [hd] at h; simp at h; omega) (by rw [hd', List.append_assoc]; exact hu), hd', List.append_assoc]
   rfl
include hs hN in
theorem Q4j (k : List (Int × Int) → Option (List (Int × Int))) : ∀ (m i : Nat) (u : List (Int × Int)), (n.Elements.drop i).length < m → (u ++ (n.Elements.drop i).flatMap fun x => x.From.map pq).Nodup →
  Qc5 N n k m i u = k (u ++ (n.Elements.drop i).flatMap fun x => x.From.map pq) := by
 intro m
 induction m with
 | zero => intro i _ h; exact absurd h (Nat.not_lt_zero _)
 | succ m ih =>
  intro i u h hu
  rw [Qc5]
  cases hd : n.Elements.drop i with
  | nil =>
   have := Qde hd
   simp [show ¬ ((i : Int) < n.Elements.length) from by omega]
  | cons x l =>
   obtain ⟨hg, hd', hlt⟩ := Qcs hd
   have e0 := hs.e
   have hx := hs.x x (List.mem_of_getElem? hg)
   rw [hd, List.flatMap_cons, ← List.append_assoc] at hu
   simp only [show decide ((i : Int) < n.Elements.length) = true from by simpa using hlt, cond_true, Qcc, Qda hg, Option.bind_some]
   refine (Q1k x (by omega) _ N 0 u (by simp; omega) (by rw [List.drop_zero]; exact (List.nodup_append.1 hu).1)).trans ?_
   rw [List.drop_zero, Qbh (x := (i : Int) + 1) (by omega) (by omega), show (i : Int) + 1 = ((i + 1 : Nat) : Int) by omega, ih (i + 1) _ (by rw [hd']; rw [hd] at h; simp at h; omega) (by rw [hd']; exact hu), hd', List.flatMap_cons, List.append_assoc]
include hs hv hN in
theorem Q4k : Qfd N n = some (Qpv n) := by
 have e0 := hs.e
 unfold Qfd
 simp only [Qcc]
 refine (Q4j hs hN _ N 0 [] (by simp; omega) (by rw [List.drop_zero]; exact hv.dist)).trans ?_
 rw [List.drop_zero, List.nil_append]
 rfl
theorem Q17 (i : Nat) (u : List (Int × Int)) (o : Nat) (ho : o ≤ 1000) (r : List GPort) (k : Unit → Option (List GPort)) (hk : k () = some r) : ∀ (m j : Nat), o - j < m → j ≤ o →
  Qcp N i u k o m j = some ((((List.range' j (o - j)).map (fun k : Nat => (⟨(i : Int), (k : Int)⟩ : GPort))).filter fun p => !u.contains (pq p)) ++ r) := by
 intro m
 induction m with
 | zero => intro j h; exact absurd h (Nat.not_lt_zero _)
 | succ m ih =>
  intro j h hj
  rw [Qcp]
  by_cases hlt : j < o
  ·rw [show decide ((j : Int) < (o : Int)) = true by simpa using hlt, cond_true, Qbh (x := (j : Int) + 1) (by omega) (by omega), show (j : Int) + 1 = ((j + 1 : Nat) : Int) by omega, ih (j + 1) (by omega) (by omega), show o - j = (o - (j + 1)) + 1 by omega, List.range'_succ, List.map_cons, List.filter_cons]
   cases hu : u.contains (pq ⟨(i : Int), (j : Int)⟩) with
   | true =>
    rw [show u.contains ((i : Int), (j : Int)) = true from hu]
    simp
   | false =>
    rw [show u.contains ((i : Int), (j : Int)) = false from hu]
    simp [yld]
  ·rw [show decide ((j : Int) < (o : Int)) = false by simpa using hlt, cond_false, hk, show o - j = 0 by omega]
   rfl
include hs hN in
theorem Qvl (u : List (Int × Int)) : ∀ (m i : Nat), (n.Elements.drop i).length < m →
  Qcb N n.Elements u m i = some ((Qjx i (n.Elements.drop i)).filter fun p => !u.contains (pq p)) := by
 intro m
 induction m with
 | zero => intro i h; exact absurd h (Nat.not_lt_zero _)
 | succ m ih =>
  intro i h
  rw [Qcb]
  cases hd : n.Elements.drop i with
  | nil =>
   have := Qde hd
   simp [show ¬ ((i : Int) < n.Elements.length) from by omega, Qjx]
  | cons x l =>
   obtain ⟨hg, hd', hlt⟩ := Qcs hd
   have e0 := hs.e
   obtain ⟨o0, o1⟩ := Qxi (hs.x x (List.mem_of_getElem? hg)).2
   simp only [show decide ((i : Int) < n.Elements.length) = true from by simpa using hlt, cond_true, Qcc, Qda hg, Option.bind_some, Q47]
   have h1 := ih (i + 1) (by rw [hd']; rw [hd] at h; simp at h; omega)
   rw [Qbh (x := (i : Int) + 1) (by omega) (by omega), show (i : Int) + 1 = ((i + 1 : Nat) : Int) by omega]
   have h2 := Q17 (N := N) i u (outl x).toNat (by omega) _ (fun _ => Qcb N n.Elements u m ((i + 1 : Nat) : Int)) h1 N 0 (by omega) (Nat.zero_le _)
   rw [show (((outl x).toNat : Nat) : Int) = outl x by omega] at h2
   refine h2.trans ?_
   rw [hd', Qjx, List.filter_append, Nat.sub_zero, List.range_eq_range']
theorem Qmc (k : List GPort → Option (List GPort)) : ∀ (q y : List GPort), y.length + q.length ≤ 1000 → Qay N k q y = k (y ++ q)
 | [], y, _ => by simp [Qay]
 | x :: q, y, h => by
  have hc : decide ((y.length + [x].length) * 16 ≤ 140737488355328) = true := by simp at h ⊢; omega
  rw [Qay]
  simp only [chk]
  rw [hc, cond_true, Qmc k q _ (by simp at h ⊢; omega)]
  simp
theorem Qoa : ∀ (l : List GElement) (i : Nat), (∀ x ∈ l, x.Weights.length ≤ 25) → (Qjx i l).length ≤ 25 * l.length
 | [], _, _ => by simp [Qjx]
 | x :: l, i, h => by
  have := Qoa l (i + 1) fun y hy => h y (List.mem_cons_of_mem _ hy)
  have := Qxi (h x List.mem_cons_self)
  simp only [Qjx, List.length_append, List.length_map, List.length_range, List.length_cons]
  omega
include hs hv hN in
theorem Zew : Qgr N n = some (bif netB n then (Qix n, 0) else ([], 1)) ∨ netB n = false := by
 have e0 := hs.e
 cases hb : netB n with
 | false => exact .inr rfl
 | true =>
  refine .inl ?_
  unfold Qgr Qd5 Qcl Qet
  have h1 := Qvl hs hN (Qpv n) N 0 (by simp; omega)
  rw [List.drop_zero] at h1
  rw [Qxn hs hN, hb]
  simp only [Option.bind_some, Bool.not_true, cond_false, Q4k hs hv hN, Qcc, show Qcb N n.Elements (Qpv n) N 0 = _ from h1]
  have hlen : (Qix n).length ≤ 450 := by
   have h2 := Qoa n.Elements 0 fun x hx => (hs.x x hx).2
   have h3 := List.length_filter_le (fun p => !(Qpv n).contains (pq p)) (Qjx 0 n.Elements)
   unfold Qix
   omega
  rw [show ((Qjx 0 n.Elements).filter fun p => !(Qpv n).contains (pq p)) = Qix n from rfl, Qmc _ _ _ (by simp; omega)]
  rfl
end
theorem Q9c {N : Nat} {n : GNet} (hs : Small n) (hN : 1001 ≤ N) (h : netB n = false) : Qgr N n = some ([], 1) := by
 unfold Qgr
 rw [Qxn hs hN, h]
 rfl
theorem Qvm {N : Nat} {n : GNet} (hs : Small n) (hN : 1001 ≤ N) (h : netB n = true) : Qgr N n = some (Qix n, 0) := by
 rcases Zew hs (Q5e h) hN with e | e
 ·rw [e, h]; rfl
 ·rw [h] at e; cases e
def stB (n : GNet) (s : List Int) : Bool := decide (s.length = n.Elements.length) && s.all fun x => btw x 0 1000000000000
theorem Q4q {N : Nat} {n : GNet} (hs : Small n) (hN : 1001 ≤ N) {s : List Int} (hl : s.length ≤ 1000) : Qim N n s = some (bif netB n && stB n s then 0 else 1) := by
 have hc : Qcu N s = some (s.any fun x => !btw x 0 1000000000000) := by
  unfold Qcu Qd2 Qcc
  refine Qha (F := Qbz N s fun _ => some (-1)) (k := fun _ => some (-1)) (q := Qfz N) (fun n y => rfl) (fun x => ?_) rfl (by omega) (by omega)
  simp only [Qfz, Qh6, Qi4, Option.bind_some]
 unfold Qim Qhm stB
 rw [Qxn hs hN, hc]
 simp only [Option.bind_some, Qrd]
 cases netB n with
 | false => rfl
 | true =>
  by_cases h1 : s.length = n.Elements.length
  ·rw [decide_eq_true h1, show ((s.length : Int) != (n.Elements.length : Int)) = false by rw [bne_eq_false_iff_eq]; omega]
   cases s.all fun x => btw x 0 1000000000000 <;> rfl
  ·rw [decide_eq_false h1, show ((s.length : Int) != (n.Elements.length : Int)) = true by rw [bne_iff_ne]; omega]; rfl
def widI (x : GElement) (d : Int) : Int := if x.Wide - d / x.Narrow > 0 then x.Wide - d / x.Narrow else 0
theorem Zfx {x : GElement} (hx : Qj1 x = true) {d : Int} (h0 : 0 ≤ d) (h1 : d ≤ 9000000000000000000) : (x.Narrow != 0) = true ∧ d.tdiv x.Narrow = d / x.Narrow ∧ 0 ≤ d / x.Narrow ∧ d / x.Narrow ≤ d ∧ w64 (d / x.Narrow) = d / x.Narrow ∧ w64 (x.Wide - d / x.Narrow) = x.Wide - d / x.Narrow ∧ 0 ≤ x.Wide ∧ x.Wide ≤ 1000000 ∧ 1 ≤ x.Narrow := by
 unfold Qj1 at hx
 simp only [Bool.and_eq_true] at hx
 obtain ⟨⟨⟨⟨⟨_, hw⟩, hn⟩, _⟩, _⟩, _⟩ := hx
 obtain ⟨w0, w1⟩ := Qge.1 hw
 obtain ⟨n0, n1⟩ := Qge.1 hn
 have a := Int.ediv_nonneg h0 (show 0 ≤ x.Narrow by omega)
 have b := Int.ediv_le_self x.Narrow h0
 exact ⟨by rw [bne_iff_ne]; omega, Int.tdiv_eq_ediv_of_nonneg h0, a, b, Qbh (by omega) (by omega), Qbh (by omega) (by omega), w0, w1, n0⟩
theorem Q4g (N : Nat) {x : GElement} (hx : Qj1 x = true) {d : Int} (h0 : 0 ≤ d) (h1 : d ≤ 9000000000000000000) : Qe6 N x d = some (widI x d) := by
 obtain ⟨a, b, c, e, f, g, _⟩ := Zfx hx h0 h1
 unfold Qe6 widI
 rw [a, b, f, g]
 rfl
end Go.Proofs.Ytmbhnllcfmiajaa
