/-
  PipeKeeps: the plain law. No conditions.
-/
import Derived.Test.YtmbhnllcfmiajaaPKo6
import Derived.Test.YtmbhnllcfmiajaaPNet
import Derived.Test.YtmbhnllcfmiajaaX9
namespace Go.Proofs.Ytmbhnllcfmiajaa
open Go.RowKit
theorem Q12 (N : Nat) (t : GTick) (f e : Int) (k : Int × Int × Int → Option Bool) (hl : t.Lost.length ≤ 1000) (h0 : ∀ l ∈ t.Lost, 0 ≤ l.Heat ∧ 0 ≤ l.Silica ∧ 0 ≤ l.Gas ∧ 0 ≤ l.Scale) : ∀ (m i : Nat) (a b c : Int), (t.Lost.drop i).length < m →
  Qc7 N (t, f, e) k m (w64 a) (w64 b) (w64 c) i = k (w64 (a + (Qf9 (t.Lost.drop i)).Heat), w64 (b + (Qf9 (t.Lost.drop i)).Silica + (Qf9 (t.Lost.drop i)).Scale), w64 (c + (Qf9 (t.Lost.drop i)).Gas)) := by
 intro m
 induction m with
 | zero => intro i _ _ _ h; exact absurd h (Nat.not_lt_zero _)
 | succ m ih =>
  intro i a b c h
  rw [Qc7]
  cases hd : t.Lost.drop i with
  | nil =>
   have := Qde hd
   simp [show ¬ ((i : Int) < t.Lost.length) from by omega, Qf9]
  | cons x q =>
   obtain ⟨hg, hd', hlt⟩ := Qcs hd
   obtain ⟨x1, x2, x3, x4⟩ := h0 x (List.mem_of_getElem? hg)
   simp only [show decide ((i : Int) < t.Lost.length) = true from by simpa using hlt, cond_true, Qda hg, Option.bind_some, Qg5, Qcc, decide_eq_false (show ¬ x.Heat < 0 by omega), decide_eq_false (show ¬ x.Silica < 0 by omega), decide_eq_false (show ¬ x.Gas < 0 by omega), decide_eq_false (show ¬ x.Scale < 0 by omega), cond_false]
   rw [Qbh (x := (i : Int) + 1) (by omega) (by omega), show (i : Int) + 1 = ((i + 1 : Nat) : Int) by omega, ih (i + 1) _ _ _ (by rw [hd']; rw [hd] at h; simp at h; omega), hd', Qr9]
   dsimp only
   rw [show b + x.Silica + x.Scale + (Qf9 q).Silica + (Qf9 q).Scale = b + (x.Silica + (Qf9 q).Silica) + (x.Scale + (Qf9 q).Scale) by omega, Int.add_assoc a, Int.add_assoc c]
theorem Q13 {N : Nat} {n : GNet} {ws : List GStream} {t : GTick} {ls : List GLost} (hI : InvT n ws n.Elements.length t.Out ls) (f e g : Int) (k : Int × Int × Int × Int → Option Bool) (hl : (Qix n).length ≤ 1000) : ∀ (m i : Nat) (a b c d : Int), ((Qix n).drop i).length < m →
  Qc6 N (t, f, e) (Qix n, g) k m (w64 a) (w64 b) (w64 c) (w64 d) i = k (w64 (a + (totS (((Qix n).drop i).map (Qe5 t.Out))).Mass), w64 (b + (totS (((Qix n).drop i).map (Qe5 t.Out))).Heat), w64 (c + (totS (((Qix n).drop i).map (Qe5 t.Out))).Silica), w64 (d + (totS (((Qix n).drop i).map (Qe5 t.Out))).Gas)) := by
 intro m
 induction m with
 | zero => intro i _ _ _ _ h; exact absurd h (Nat.not_lt_zero _)
 | succ m ih =>
  intro i a b c d h
  rw [Qc6]
  cases hd : (Qix n).drop i with
  | nil =>
   have := Qde hd
   simp [show ¬ ((i : Int) < (Qix n).length) from by omega, totS]
  | cons p q =>
   obtain ⟨hg, hd', hlt⟩ := Qcs hd
   obtain ⟨h1, h2, r, h3, h4⟩ := Qxj hI (List.mem_of_getElem? hg)
   have hsv : strB (Qe5 t.Out p) = true := Qlo.2 (hI.v r (List.mem_of_getElem? h3) _ (List.mem_of_getElem? h4))
   have l3 := (List.getElem?_eq_some_iff.1 h3).1
   have l4 := (List.getElem?_eq_some_iff.1 h4).1
   simp only [show decide ((i : Int) < (Qix n).length) = true from by simpa using hlt, cond_true, Qda hg, Option.bind_some, Qg5, Qcc, decide_eq_false (show ¬ p.Element < 0 by omega), decide_eq_false (show ¬ p.Element ≥ (t.Out.length : Int) by omega), decide_eq_false (show ¬ p.Outlet < 0 by omega), cond_false, show getI t.Out p.Element = some r by unfold getI; rw [if_pos h1, h3], decide_eq_false (show ¬ p.Outlet ≥ (r.length : Int) by omega), show getI r p.Outlet = some (Qe5 t.Out p) by unfold getI; rw [if_pos h2, h4], Q0g, hsv, show ((0 : Int) != 0) = false from rfl]
   rw [Qbh (x := (i : Int) + 1) (by omega) (by omega), show (i : Int) + 1 = ((i + 1 : Nat) : Int) by omega, ih (i + 1) _ _ _ _ (by rw [hd']; rw [hd] at h; simp at h; omega), hd', List.map_cons, Qkb]
   dsimp only
   rw [Int.add_assoc a, Int.add_assoc b, Int.add_assoc c, Int.add_assoc d]
theorem Q5s (n : GNet) (s : List Int) (ws : List GStream) (gn : Q5x n) (_ : Qxu s) (_ : Qqj ws) : Qg1 (n.Elements.length + s.length + 2000) n s ws = some true := by
 generalize hNN : n.Elements.length + s.length + 2000 = N
 have hN : 1001 ≤ N := by omega
 have hl : (n.Elements.length : Int) ≤ 9223372036854775807 := by
  have := gn.2.1
  rw [Q5k] at this
  omega
 unfold Qg1
 simp only [Q4i, Option.bind_some, Q8z]
 rcases Zgk (N := N) (n := n) (ws := ws) hl (by omega) with e | ⟨e, hs, hw⟩
 ·rw [e, Option.bind_some, Bool.not_false, cond_true]
 rw [e, Option.bind_some, Bool.not_true, cond_false]
 by_cases h25 : (s.length : Int) > 25
 ·rw [decide_eq_true h25, cond_true]
 rw [decide_eq_false h25, cond_false]
 simp only [Zgf hs hN, Zde N (show s.length ≤ 1000 by omega), Q1r (show ws.length ≤ 1000 by omega) hN, Zap hs hN (show ws.length ≤ 1000 by omega) (show s.length ≤ 1000 by omega), Q2r hs hN (show ws.length ≤ 1000 by omega) (show s.length ≤ 1000 by omega), Option.bind_some]
 unfold doA accA
 by_cases hr : Qjw n s ws = 0
 ·obtain ⟨hv, hst, hf, hb⟩ := Qp4 hr
  rw [if_pos hr, if_pos hr, Qvm hs hN hb, Option.bind_some]
  cases ht : Qun n s ws with
  | inl a => rfl
  | inr r =>
   have hT := Qsz hv hf hst ht
   have hI := hT.inv
   have hE := Qvn hs
   have hll := hI.ll
   have e0 := hs.e
   simp only [Qtn, bne_self_eq_false, cond_false]
   have e1 := fun k => Q13 (N := N) (t := ⟨r.1, r.2.1, r.2.2.1⟩) hI 0 0 0 k (by omega) N 0 0 0 0 0 (by simp; omega)
   simp only [Qpe, List.drop_zero, Int.zero_add] at e1
   refine (e1 _).trans ?_
   dsimp only
   refine (Q12 N ⟨r.1, r.2.1, r.2.2.1⟩ 0 0 _ (by dsimp only; omega) hI.l0 N 0 _ _ _ (by dsimp only; simp; omega)).trans ?_
   obtain ⟨k1, k2, k3, k4⟩ := Qum hI hf
   obtain ⟨b1, b2, b3, b4⟩ := Qz1 hI hf
   have v := Qkr hf.v
   have hfm := hf.m
   have hfg := hf.g
   obtain ⟨v1, v2, v3, v4, v5, v6, v7, v8⟩ := v
   dsimp only
   have o1 : totS ((Qix n).map (Qe5 r.1)) = totS (Qms n r.1) := rfl
   have q1 : (totS (Qms n r.1)).Heat + (Qf9 r.2.1).Heat = (totS ws).Heat := k2
   have q2 : (totS (Qms n r.1)).Silica + (Qf9 r.2.1).Silica + (Qf9 r.2.1).Scale = (totS ws).Silica := k3
   have q3 : (totS (Qms n r.1)).Gas + (Qf9 r.2.1).Gas = (totS ws).Gas := k4
   rw [List.drop_zero, o1, k1, Qg5, q1, q2, q3, Qbh (x := (totS ws).Mass) (by omega) (by omega), Qbh (x := (totS ws).Heat) (by omega) (by omega), Qbh (x := (totS ws).Silica) (by omega) (by omega), Qbh (x := (totS ws).Gas) (by omega) (by omega)]
   simp only [beq_self_eq_true, cond_true]
 ·rw [if_neg hr, if_neg hr]
  dsimp only
  rw [show (Qjw n s ws != 0) = true by simpa using hr, bne_self_eq_false]
  cases hb : netB n with
  | false => rw [Q9c hs hN hb]; rfl
  | true => rw [Qvm hs hN hb]; rfl
end Go.Proofs.Ytmbhnllcfmiajaa
