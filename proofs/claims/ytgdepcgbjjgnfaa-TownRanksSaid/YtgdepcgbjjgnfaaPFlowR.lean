/-
  Plain: the document's flows are the program's. No conditions.
-/
import Derived.Test.YtgdepcgbjjgnfaaPFull
namespace Go.Proofs.Ytgdepcgbjjgnfaa
open Go.RowKit
def chS (t : List GNode) (L : List Int) (j : Nat) : Nat → Nat → Int
 | 0, _ => 0
 | d + 1, a => (match t[a]? with | some x => if x.Parent = (j : Int) then L.getD a 0 else 0 | none => 0) + chS t L j d (a + 1)
theorem Qsm {t : List GNode} {uses L : List Int} (ht : Qem t = true) : ∀ (m : Nat) (out : List Int), m ≤ t.length → FlowOK t m out → run t m out = L → (∀ (j : Nat) o, j < m → out[j]? = some o → o = uses.getD j 0 + chS t L j (t.length - m) m) →
  ∀ (i : Nat) x, i < m → t[i]? = some x → L.getD i 0 = Qgw (uses.getD i 0 + chS t L i (t.length - (i + 1)) (i + 1)) x ∧ 0 ≤ L.getD i 0 ∧ L.getD i 0 ≤ 100000000000
 | 0, _, _, _, _, _, i, _, h, _ => absurd h (Nat.not_lt_zero _)
 | m + 1, out, hm, hok, hrun, hinv, i, x, hi, hx => by
  have hxm : t[m]? = some (t[m]'(by omega)) := List.getElem?_eq_getElem _
  have hom : out[m]? = some (out[m]'(by rw [hok.len]; omega)) := List.getElem?_eq_getElem _
  generalize t[m]'(by omega) = y at hxm
  generalize out[m]'(by rw [hok.len]; omega) = o at hom
  obtain ⟨hflow, o0, o1, l0, l1, hp⟩ := Qsj ht hok hxm hom
  rw [run, hxm, hom] at hrun
  have hrun' : run t m (stp y o out m) = L := hrun
  have hn := Qkx ht hxm
  have hLm : L[m]? = some (Qgw o y) := by
   rw [← hrun', Qsn ht m _ m (Nat.le_refl m)]
   unfold stp
   split
   ·rename_i hpp
    obtain ⟨p1, _⟩ := hp hpp
    rw [Qfc, if_neg (by omega), Qfc, if_pos rfl, if_pos (by rw [hok.len]; omega)]
   ·rw [Qfc, if_pos rfl, if_pos (by rw [hok.len]; omega)]
  have hLd : L.getD m 0 = Qgw o y := by rw [List.getD_eq_getElem?_getD, hLm, Option.getD_some]
  have hom' := hinv m o (Nat.lt_succ_self m) hom
  rcases Nat.lt_or_ge i m with hlt | hge
  ·refine Qsm ht m _ (by omega) hflow hrun' (fun j q hj hq => ?_) i x hlt hx
   have hoj : out[j]? = some (out[j]'(by rw [hok.len]; omega)) := List.getElem?_eq_getElem _
   generalize out[j]'(by rw [hok.len]; omega) = oj at hoj
   have hj' := hinv j oj (by omega) hoj
   rw [show t.length - m = (t.length - (m + 1)) + 1 by omega, chS, hxm]
   dsimp only
   unfold stp at hq
   by_cases hpj : y.Parent = (j : Int)
   ·rw [if_pos (by omega), Qfc, if_pos (by omega), List.length_set, if_pos (by rw [hok.len]; omega)] at hq
    rw [if_pos hpj, hLd]
    have e : y.Parent.toNat = j := by omega
    rw [e, List.getD_eq_getElem?_getD, hoj, Option.getD_some] at hq
    have := Option.some.inj hq
    omega
   ·rw [if_neg hpj]
    have hq' : out[j]? = some q := by
     split at hq
     ·rename_i hpp
      rw [Qfc, if_neg (by omega), Qfc, if_neg (by omega)] at hq
      exact hq
     ·rw [Qfc, if_neg (by omega)] at hq
      exact hq
    rw [hoj] at hq'
    have := Option.some.inj hq'
    omega
  ·have : i = m := by omega
   subst this
   rw [hxm] at hx
   cases hx
   rw [hLd, ← hom']
   exact ⟨rfl, l0, l1⟩
theorem Qwf {t : List GNode} {l : List Int} (ht : Qem t = true) (hu : Qek l = true) (hl : l.length = t.length) {i : Nat} {x : GNode} (hx : t[i]? = some x) :
  (Qdv t l).getD i 0 = Qgw (l.getD i 0 + chS t (Qdv t l) i (t.length - (i + 1)) (i + 1)) x ∧ 0 ≤ (Qdv t l).getD i 0 ∧ (Qdv t l).getD i 0 ≤ 100000000000 :=
 Qsm ht t.length l (Nat.le_refl _) (Qnw ht hu hl) rfl (fun j o hj ho => by
  rw [Nat.sub_self, chS, List.getD_eq_getElem?_getD, ho]
  simp) i x (List.getElem?_eq_some_iff.1 hx).1 hx
end Go.Proofs.Ytgdepcgbjjgnfaa
