/-
  Plain: the document's flows are the program's. No conditions.
-/
import Derived.Test.YtgdepcgbjjgnfaaPFull
namespace Go.Proofs.Ytgdepcgbjjgnfaa
open Go.RowKit
def chS (t : List GNode) (L : List Int) (j : Nat) : Nat → Nat → Int
 | 0, _ => 0
 | d + 1, a => (match t[a]? with | some x => if x.Parent = (j : Int) then L.getD a 0 else 0 | none => 0) + chS t L j d (a + 1)
theorem Qlo {t : List GNode} {L : List Int} (hL : ∀ (i : Nat), 0 ≤ L.getD i 0) (j : Nat) : ∀ (d a : Nat), 0 ≤ chS t L j d a
 | 0, _ => Int.le_refl _
 | d + 1, a => by
  have := Qlo hL (t := t) j d (a + 1)
  have := hL a
  rw [chS]
  split
  ·split <;> omega
  ·omega
theorem Qtd {t : List GNode} {uses L : List Int} (ht : Qg6 t = true) : ∀ (m : Nat) (out : List Int), m ≤ t.length → FlowOK t m out → run t m out = L → (∀ (j : Nat) o, j < m → out[j]? = some o → o = uses.getD j 0 + chS t L j (t.length - m) m) →
  ∀ (i : Nat) x, i < m → t[i]? = some x → L.getD i 0 = Qgi (uses.getD i 0 + chS t L i (t.length - (i + 1)) (i + 1)) x ∧ 0 ≤ L.getD i 0 ∧ L.getD i 0 ≤ 100000000000
 | 0, _, _, _, _, _, i, _, h, _ => absurd h (Nat.not_lt_zero _)
 | m + 1, out, hm, hok, hrun, hinv, i, x, hi, hx => by
  have hxm : t[m]? = some (t[m]'(by omega)) := List.getElem?_eq_getElem _
  have hom : out[m]? = some (out[m]'(by rw [hok.len]; omega)) := List.getElem?_eq_getElem _
  generalize t[m]'(by omega) = y at hxm
  generalize out[m]'(by rw [hok.len]; omega) = o at hom
  obtain ⟨hflow, o0, o1, l0, l1, hp⟩ := stp_ok ht hok hxm hom
  rw [run, hxm, hom] at hrun
  have hrun' : run t m (stp y o out m) = L := hrun
  have hn := Qft ht hxm
  have hLm : L[m]? = some (Qgi o y) := by
   rw [← hrun', Qte ht m _ m (Nat.le_refl m)]
   unfold stp
   split
   ·rename_i hpp
    obtain ⟨p1, _⟩ := hp hpp
    rw [Qe6, if_neg (by omega), Qe6, if_pos rfl, if_pos (by rw [hok.len]; omega)]
   ·rw [Qe6, if_pos rfl, if_pos (by rw [hok.len]; omega)]
  have hLd : L.getD m 0 = Qgi o y := by rw [List.getD_eq_getElem?_getD, hLm, Option.getD_some]
  have hom' := hinv m o (Nat.lt_succ_self m) hom
  rcases Nat.lt_or_ge i m with hlt | hge
  ·refine Qtd ht m _ (by omega) hflow hrun' (fun j q hj hq => ?_) i x hlt hx
   have hoj : out[j]? = some (out[j]'(by rw [hok.len]; omega)) := List.getElem?_eq_getElem _
   generalize out[j]'(by rw [hok.len]; omega) = oj at hoj
   have hj' := hinv j oj (by omega) hoj
   rw [show t.length - m = (t.length - (m + 1)) + 1 by omega, chS, hxm]
   dsimp only
   unfold stp at hq
   by_cases hpj : y.Parent = (j : Int)
   ·rw [if_pos (by omega), Qe6, if_pos (by omega), List.length_set, if_pos (by rw [hok.len]; omega)] at hq
    rw [if_pos hpj, hLd]
    have e : y.Parent.toNat = j := by omega
    rw [e, List.getD_eq_getElem?_getD, hoj, Option.getD_some] at hq
    have := Option.some.inj hq
    omega
   ·rw [if_neg hpj]
    have hq' : out[j]? = some q := by
     split at hq
     ·rename_i hpp
      rw [Qe6, if_neg (by omega), Qe6, if_neg (by omega)] at hq
      exact hq
     ·rw [Qe6, if_neg (by omega)] at hq
      exact hq
    rw [hoj] at hq'
    have := Option.some.inj hq'
    omega
  ·have : i = m := by omega
   subst this
   rw [hxm] at hx
   cases hx
   rw [hLd, ← hom']
   exact ⟨rfl, l0, l1⟩
theorem Qic {t : List GNode} {l : List Int} (ht : Qg6 t = true) (hu : Qh1 l = true) (hl : l.length = t.length) {i : Nat} {x : GNode} (hx : t[i]? = some x) :
  (Qc0 t l).getD i 0 = Qgi (l.getD i 0 + chS t (Qc0 t l) i (t.length - (i + 1)) (i + 1)) x ∧ 0 ≤ (Qc0 t l).getD i 0 ∧ (Qc0 t l).getD i 0 ≤ 100000000000 :=
 Qtd ht t.length l (Nat.le_refl _) (Qs9 ht hu hl) rfl (fun j o hj ho => by
  rw [Nat.sub_self, chS, List.getD_eq_getElem?_getD, ho]
  simp) i x (List.getElem?_eq_some_iff.1 hx).1 hx
theorem Qhu {t : List GNode} {l : List Int} (ht : Qg6 t = true) (hu : Qh1 l = true) (hl : l.length = t.length) (i : Nat) : 0 ≤ (Qc0 t l).getD i 0 := by
 rcases Nat.lt_or_ge i t.length with h | h
 ·exact (Qic ht hu hl (List.getElem?_eq_getElem h)).2.1
 ·rw [List.getD_eq_getElem?_getD, List.getElem?_eq_none (by rw [Qwu]; omega)]
  simp
theorem Qqh (N : Nat) {t : List GNode} {l : List Int} (rec_ : List GNode → List Int → Int → Option Int) (i : Nat) (k : Int → Option Int) (hs : t.length ≤ 1000) (hL : ∀ j, 0 ≤ (Qc0 t l).getD j 0) (hrec : ∀ j, i < j → j < t.length → rec_ t l j = some ((Qc0 t l).getD j 0)) : ∀ (n d a : Nat) (acc : Int), d < n → a + d = t.length → i < a → 0 ≤ acc → acc + chS t (Qc0 t l) i d a ≤ 100000000000 →
  Qdh N t rec_ l i k n acc a = k (acc + chS t (Qc0 t l) i d a) := by
 intro n
 induction n with
 | zero => intro d a _ h; omega
 | succ n ih =>
  intro d a acc h hd ha h0 hb
  rw [Qdh]
  cases d with
  | zero => simp [show ¬ ((a : Int) < t.length) from by omega, chS]
  | succ d =>
   have hx : t[a]? = some (t[a]'(by omega)) := List.getElem?_eq_getElem _
   generalize t[a]'(by omega) = x at hx
   have e1 : w64 ((a : Int) + 1) = ((a + 1 : Nat) : Int) := Qc4 (by omega) (by omega)
   rw [chS, hx] at hb ⊢
   dsimp only at hb ⊢
   have hc := Qlo hL (t := t) i d (a + 1)
   have hLa := hL a
   simp only [show decide ((a : Int) < t.length) = true from by simp; omega, cond_true, Qfo hx, Option.bind_some, e1]
   by_cases hp : x.Parent = (i : Int)
   ·rw [if_pos hp] at hb ⊢
    simp only [show (x.Parent == (i : Int)) = true from by simpa using hp, cond_true, hrec a ha (by omega), Option.bind_some]
    rw [Qc4 (by omega) (by omega), ih d (a + 1) _ (by omega) (by omega) (by omega) (by omega) (by omega), Int.add_assoc]
   ·rw [if_neg hp] at hb ⊢
    simp only [show (x.Parent == (i : Int)) = false from by simpa using hp, cond_false]
    rw [ih d (a + 1) acc (by omega) (by omega) (by omega) h0 (by omega), Int.zero_add]
theorem Qlk {t : List GNode} {l : List Int} (ht : Qg6 t = true) (hu : Qh1 l = true) (hl : l.length = t.length) : ∀ (D i N : Nat), t.length - i ≤ D → i < t.length → 100 + D ≤ N → Qep N t l i = some ((Qc0 t l).getD i 0)
 | 0, i, N, h, hi, _ => by omega
 | D + 1, i, N, h, hi, hN => by
  have h2 := Qij ht
  obtain ⟨M, rfl⟩ : ∃ M, N = M + 1 := ⟨N - 1, by omega⟩
  have hx : t[i]? = some (t[i]'hi) := List.getElem?_eq_getElem _
  generalize t[i]'hi = x at hx
  have hg : l[i]? = some (l[i]'(by omega)) := List.getElem?_eq_getElem _
  have hgd : l.getD i 0 = l[i]'(by omega) := by rw [List.getD_eq_getElem?_getD, hg, Option.getD_some]
  obtain ⟨f1, f2, f3⟩ := Qic ht hu hl hx
  have hu0 := Qnz hu hg
  have hc := Qlo (Qhu ht hu hl) (t := t) i (t.length - (i + 1)) (i + 1)
  have hn := Qft ht hx
  have hle : l.getD i 0 + chS t (Qc0 t l) i (t.length - (i + 1)) (i + 1) ≤ (Qc0 t l).getD i 0 := by
   rw [f1]
   unfold Qgi
   have := hn.loss
   split <;> omega
  show Qfc M (Qep M) t l i = _
  unfold Qfc
  rw [Qfo hg, Option.bind_some]
  simp only [Qcv]
  have e1 : w64 ((i : Int) + 1) = ((i + 1 : Nat) : Int) := Qc4 (by omega) (by omega)
  rw [e1, ← hgd, Qqh M (Qep M) i _ (by omega) (Qhu ht hu hl) (fun j hj hjt => Qlk ht hu hl D j M (by omega) hjt (by omega)) M (t.length - (i + 1)) (i + 1) _ (by omega) (by omega) (by omega) (by rw [hgd]; exact hu0.1) (by omega)]
  generalize hT : l.getD i 0 + chS t (Qc0 t l) i (t.length - (i + 1)) (i + 1) = T at f1 hle
  rw [f1] at f3 ⊢
  unfold Qgi at f3 ⊢
  by_cases hpos : T > 0
  ·rw [if_pos hpos] at f3 ⊢
   have := hn.loss
   simp only [show decide (T > 0) = true from by simpa using hpos, cond_true, Qfo hx, Option.bind_some]
   rw [Qc4 (by omega) (by omega)]
  ·rw [if_neg hpos]
   simp [hpos]
end Go.Proofs.Ytgdepcgbjjgnfaa
