/-
  Plain laws on what lies at the open ends of a net after a tick. No conditions but validity.
-/
import Derived.Test.YtmbhnllcfmiajaaPTc6
namespace Go.Proofs.Ytmbhnllcfmiajaa
open Go.RowKit
theorem Q0b (i : Nat) : ∀ (r : List GStream) (j : Nat), Qmw i j r = (List.range r.length).map fun k : Nat => (((i : Int), ((j + k : Nat) : Int)), r.getD k zs)
 | [], _ => rfl
 | x :: r, j => by
  rw [Qmw, Q0b i r (j + 1), List.length_cons, List.range_succ_eq_map, List.map_cons, List.map_map]
  congr 1
  apply List.map_congr_left
  intro k _
  simp [show j + 1 + k = j + (k + 1) by omega]
theorem Qsd (O : List (List GStream)) : ∀ (els : List GElement) (o pre : List (List GStream)), O = pre ++ o → els.length = o.length → (∀ (k : Nat) y r, els[k]? = some y → o[k]? = some r → (r.length : Int) = outl y) →
  Qgi pre.length o = (Qjx pre.length els).map fun p => (pq p, Qe5 O p)
 | [], [], _, _, _, _ => rfl
 | x :: els, r :: o, pre, hO, hl, hr => by
  have h1 := hr 0 x r rfl rfl
  have ih := Qsd O els o (pre ++ [r]) (by rw [hO]; simp) (by simpa using hl) fun k y q hy hq => hr (k + 1) y q (by simpa using hy) (by simpa using hq)
  rw [List.length_append, List.length_singleton] at ih
  rw [Qgi, Qjx, List.map_append, ih, Q0b, List.map_map, show (outl x).toNat = r.length by omega]
  congr 1
  apply List.map_congr_left
  intro k hk
  have hk' := List.mem_range.1 hk
  have hg : O.getD pre.length [] = r := by rw [hO, List.getD_eq_getElem?_getD, List.getElem?_append_right (Nat.le_refl _), Nat.sub_self]; rfl
  simp only [Function.comp, pq, Qe5, Int.toNat_natCast, hg, Nat.zero_add]
 | [], _ :: _, _, _, h, _ => by simp at h
 | _ :: _, [], _, _, h, _ => by simp at h
def Qms (n : GNet) (o : List (List GStream)) : List GStream := (Qix n).map (Qe5 o)
section
variable {n : GNet} (hv : NetV n) {ws : List GStream} {o : List (List GStream)} {ls : List GLost} (hI : InvT n ws n.Elements.length o ls)
include hI
theorem Qu7 : Qgi 0 o = (Qjx 0 n.Elements).map fun p => (pq p, Qe5 o p) := Qsd o n.Elements o [] rfl hI.lo.symm hI.rows
theorem Q8p (f : GStream → Int) : Qf3 f (Qgy n n.Elements.length) (Qgi 0 o) = ((Qms n o).map f).sum := by
 rw [Q1l, Qu7 hI]
 unfold Qf3 Qms Qix
 rw [List.filter_map, List.map_map, List.map_map]
 rfl
theorem Qxj {p : GPort} (hp : p ∈ Qix n) : 0 ≤ p.Element ∧ 0 ≤ p.Outlet ∧ ∃ r, o[p.Element.toNat]? = some r ∧ r[p.Outlet.toNat]? = some (Qe5 o p) := by
 have h1 : (pq p, Qe5 o p) ∈ Qgi 0 o := by
  rw [Qu7 hI]
  exact List.mem_map.2 ⟨p, (List.mem_filter.1 hp).1, rfl⟩
 obtain ⟨a, b, r, c, d⟩ := Qli.1 h1
 refine ⟨by simpa using a, b, r, ?_, d⟩
 rw [show (p.Element - ((0 : Nat) : Int)).toNat = p.Element.toNat by simp] at c
 exact c
theorem Zak : ∀ s ∈ Qms n o, StrV s := fun s hs => by
 obtain ⟨p, hp, rfl⟩ := List.mem_map.1 hs
 obtain ⟨_, _, r, h1, h2⟩ := Qxj hI hp
 exact hI.v r (List.mem_of_getElem? h1) _ (List.mem_of_getElem? h2)
theorem Qum (hf : FedV n ws) : (totS (Qms n o)).Mass = (totS ws).Mass ∧ (totS (Qms n o)).Heat + (ls.map fun l => l.Heat).sum = (totS ws).Heat ∧ (totS (Qms n o)).Silica + (ls.map fun l => l.Silica).sum + (ls.map fun l => l.Scale).sum = (totS ws).Silica ∧ (totS (Qms n o)).Gas + (ls.map fun l => l.Gas).sum = (totS ws).Gas := by
 have e : ws.take (wcn n n.Elements.length) = ws := List.take_of_length_le (by rw [hf.len]; exact Nat.le_refl _)
 have h1 := hI.m
 have h2 := hI.h
 have h3 := hI.q
 have h4 := hI.g
 rw [Q8p hI, e] at h1 h2 h3 h4
 exact ⟨h1, h2, h3, h4⟩
end
theorem Qup (N : Nat) (l : List GStream) (k : List GStream → Option (List GStream)) (hl : l.length ≤ 1000) : ∀ (m i : Nat) (acc : List GStream), (l.drop i).length < m → acc.length = i → Qdi N l k m acc i = k (acc ++ l.drop i) := by
 intro m
 induction m with
 | zero => intro i _ h; exact absurd h (Nat.not_lt_zero _)
 | succ m ih =>
  intro i acc h ha
  rw [Qdi]
  cases hd : l.drop i with
  | nil =>
   have := Qde hd
   simp [show ¬ ((i : Int) < l.length) from by omega]
  | cons p q =>
   obtain ⟨hg, hd', hlt⟩ := Qcs hd
   simp only [show decide ((i : Int) < l.length) = true from by simpa using hlt, cond_true, Qda hg, Qi2, Option.bind_some, chk]
   rw [show decide ((acc.length + [p].length) * 32 ≤ 140737488355328) = true by simp; omega, cond_true, Qbh (x := (i : Int) + 1) (by omega) (by omega), show (i : Int) + 1 = ((i + 1 : Nat) : Int) by omega,
    ih (i + 1) _ (by rw [hd']; rw [hd] at h; simp at h; omega) (by simp [ha]), hd', List.append_assoc]
   rfl
theorem Q1r {N : Nat} {l : List GStream} (hl : l.length ≤ 1000) (hN : 1001 ≤ N) : Qgb N l = some l := by
 unfold Qgb
 simp only [Qcc]
 refine (Qup N l _ hl N 0 [] (by simp; omega) rfl).trans ?_
 rw [List.drop_zero, List.nil_append]
def Qf9 (ls : List GLost) : GLost := ⟨(ls.map fun l => l.Heat).sum, (ls.map fun l => l.Silica).sum, (ls.map fun l => l.Gas).sum, (ls.map fun l => l.Scale).sum⟩
theorem Qr9 (l : GLost) (ls : List GLost) : Qf9 (l :: ls) = ⟨l.Heat + (Qf9 ls).Heat, l.Silica + (Qf9 ls).Silica, l.Gas + (Qf9 ls).Gas, l.Scale + (Qf9 ls).Scale⟩ := by simp [Qf9]
theorem Q5n (N : Nat) (t : GTick) (f e : Int) (k : Int × Int × Int × Int × List GStream → Option (GStream × GStream × GLost × Int)) (y : List GStream) (hl : t.Lost.length ≤ 1000) : ∀ (m i : Nat) (a b c d : Int), (t.Lost.drop i).length < m →
  Qdt N (t, f, e) k m i (w64 a) (w64 b) (w64 c) (w64 d) y = k (w64 (a + (Qf9 (t.Lost.drop i)).Heat), w64 (b + (Qf9 (t.Lost.drop i)).Silica), w64 (c + (Qf9 (t.Lost.drop i)).Gas), w64 (d + (Qf9 (t.Lost.drop i)).Scale), y) := by
 intro m
 induction m with
 | zero => intro i _ _ _ _ h; exact absurd h (Nat.not_lt_zero _)
 | succ m ih =>
  intro i a b c d h
  rw [Qdt]
  cases hd : t.Lost.drop i with
  | nil =>
   have := Qde hd
   simp [show ¬ ((i : Int) < t.Lost.length) from by omega, Qf9]
  | cons x q =>
   obtain ⟨hg, hd', hlt⟩ := Qcs hd
   simp only [show decide ((i : Int) < t.Lost.length) = true from by simpa using hlt, cond_true, Qda hg, Option.bind_some, Qg5]
   rw [Qbh (x := (i : Int) + 1) (by omega) (by omega), show (i : Int) + 1 = ((i + 1 : Nat) : Int) by omega, ih (i + 1) _ _ _ _ (by rw [hd']; rw [hd] at h; simp at h; omega), hd', Qr9]
   simp only [Int.add_assoc]
theorem Qr2 {N : Nat} {n : GNet} {ws : List GStream} {t : GTick} {ls : List GLost} (hI : InvT n ws n.Elements.length t.Out ls) (f e : Int) (k : List GStream → Option (GStream × GStream × GLost × Int)) : ∀ (q : List GPort) (y : List GStream), (∀ p ∈ q, p ∈ Qix n) → y.length + q.length ≤ 1000 →
  Qc1 N (t, f, e) k q y = k (y ++ q.map (Qe5 t.Out))
 | [], y, _, _ => by simp [Qc1]
 | p :: q, y, hq, hl => by
  obtain ⟨h1, h2, r, h3, h4⟩ := Qxj hI (hq p List.mem_cons_self)
  have hc : decide ((y.length + [Qe5 t.Out p].length) * 32 ≤ 140737488355328) = true := by simp at hl ⊢; omega
  rw [Qc1]
  simp only [show getI t.Out p.Element = some r by unfold getI; rw [if_pos h1, h3], show getI r p.Outlet = some (Qe5 t.Out p) by unfold getI; rw [if_pos h2, h4], Option.bind_some, chk, hc, cond_true]
  rw [Qr2 hI f e k q _ (fun z hz => hq z (List.mem_cons_of_mem _ hz)) (by simp at hl ⊢; omega)]
  simp
def str0 : GStream := ⟨0, 0, 0, 0⟩
def Zgh : GLost := ⟨0, 0, 0, 0⟩
def accA (n : GNet) (st : List Int) (ws : List GStream) : GStream × GStream × GLost × Int :=
 if Qjw n st ws = 0 then Qtn (Qun n st ws) (fun _ => (str0, str0, Zgh, 11)) (fun r => (totS ws, totS (Qms n r.1), Qf9 r.2.1, 0)) else (str0, str0, Zgh, Qjw n st ws)
theorem Q9d {N : Nat} {n : GNet} (hs : Small n) (hN : 1001 ≤ N) : Qet N n.Table n.Elements (Qpv n) = some (Qix n) := by
 have e0 := hs.e
 unfold Qet
 have h1 := Qvl hs hN (Qpv n) N 0 (by simp; omega)
 rw [List.drop_zero] at h1
 exact h1
theorem Qvn {n : GNet} (hs : Small n) : (Qix n).length ≤ 450 := by
 have e0 := hs.e
 have h2 := Qoa n.Elements 0 fun x hx => (hs.x x hx).2
 have h3 := List.length_filter_le (fun p => !(Qpv n).contains (pq p)) (Qjx 0 n.Elements)
 unfold Qix
 omega
theorem Qz1 {n : GNet} {ws : List GStream} {o : List (List GStream)} {ls : List GLost} (hI : InvT n ws n.Elements.length o ls) (hf : FedV n ws) : (0 ≤ (Qf9 ls).Heat ∧ (Qf9 ls).Heat ≤ 4000000000) ∧ (0 ≤ (Qf9 ls).Silica ∧ (Qf9 ls).Silica ≤ 10000000000) ∧ (0 ≤ (Qf9 ls).Gas ∧ (Qf9 ls).Gas ≤ 1000000000) ∧ 0 ≤ (Qf9 ls).Scale ∧ (Qf9 ls).Scale ≤ 10000000000 := by
 obtain ⟨k1, k2, k3, k4⟩ := Qum hI hf
 have v := Qkr (Zak hI)
 have w := Qkr hf.v
 have hm := hf.m
 have hg := hf.g
 have n1 := Qga (fun l : GLost => l.Heat) ls fun l h => (hI.l0 l h).1
 have n2 := Qga (fun l : GLost => l.Silica) ls fun l h => (hI.l0 l h).2.1
 have n3 := Qga (fun l : GLost => l.Gas) ls fun l h => (hI.l0 l h).2.2.1
 have n4 := Qga (fun l : GLost => l.Scale) ls fun l h => (hI.l0 l h).2.2.2
 have := v.h0
 have := v.s0
 have := v.g0
 have := w.h1
 have := w.s1
 unfold Qf9
 dsimp only
 omega
theorem Q2r {N : Nat} {n : GNet} (hs : Small n) (hN : 1001 ≤ N) {st : List Int} {ws : List GStream} (hl : ws.length ≤ 1000) (hl2 : st.length ≤ 1000) : Qhq N n st ws = some (accA n st ws) := by
 unfold Qhq
 rw [Zap hs hN hl hl2, Option.bind_some]
 unfold doA accA
 by_cases hr : Qjw n st ws = 0
 ·obtain ⟨hv, hst, hf, _⟩ := Qp4 hr
  rw [if_pos hr, if_pos hr]
  cases ht : Qun n st ws with
  | inl a => rfl
  | inr r =>
   have hT := Qsz hv hf hst ht
   have hI := hT.inv
   have hE := Qvn hs
   have hll := hI.ll
   have e0 := hs.e
   simp only [Qtn, show ((0 : Int) != 0) = false from rfl, cond_false, Qcc, Q4k hs hv hN, Q9d hs hN, Option.bind_some]
   refine (Qr2 (t := ⟨r.1, r.2.1, r.2.2.1⟩) hI 0 0 _ (Qix n) [] (fun p h => h) (by simp; omega)).trans ?_
   rw [List.nil_append]
   have := fun k => Q5n N ⟨r.1, r.2.1, r.2.2.1⟩ 0 0 k ((Qix n).map (Qe5 r.1)) (by dsimp only; omega) N 0 0 0 0 0 (by dsimp only; simp; omega)
   rw [Qpe] at this
   refine (this _).trans ?_
   obtain ⟨b1, b2, b3, b4⟩ := Qz1 hI hf
   have hov := Zak hI
   have hol : (Qms n r.1).length ≤ 450 := by unfold Qms; rw [List.length_map]; exact hE
   dsimp only
   rw [List.drop_zero, Qpw hl hN, Qn5 hf.v hl, Option.bind_some]
   show (Qd6 N (Qms n r.1)).bind _ = _
   rw [Qpw (by omega) hN, Qn5 hov (by omega), Option.bind_some]
   simp only [Int.zero_add]
   rw [Qbh (x := (Qf9 r.2.1).Heat) (by omega) (by omega), Qbh (x := (Qf9 r.2.1).Silica) (by omega) (by omega), Qbh (x := (Qf9 r.2.1).Gas) (by omega) (by omega), Qbh (x := (Qf9 r.2.1).Scale) (by omega) (by omega)]
 ·rw [if_neg hr, if_neg hr]
  dsimp only
  rw [show (Qjw n st ws != 0) = true by simpa using hr, cond_true]
  rfl
end Go.Proofs.Ytmbhnllcfmiajaa
