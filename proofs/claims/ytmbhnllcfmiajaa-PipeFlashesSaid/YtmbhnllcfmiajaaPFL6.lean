/-
  PipeFlashes: the plain law. No conditions.
-/
import Derived.Test.YtmbhnllcfmiajaaPTc6
import Derived.Test.YtmbhnllcfmiajaaPNet
import Derived.Test.YtmbhnllcfmiajaaX8
namespace Go.Proofs.Ytmbhnllcfmiajaa
open Go.RowKit
def Qmj (a : Int) : GElement := ⟨1, [], a, 0, 1000000, 1, []⟩
def eSep (p : GPort) (a : Int) : GElement := ⟨4, [p], a, 0, 1000000, 1, []⟩
section
variable {t : List GRow} (ht : tabB t = true) {a b : Int} (ha : 1 ≤ a ∧ a ≤ (t.length : Int) - 1) (hb : 0 ≤ b ∧ b < a)
include ht ha in
theorem Zdk : netB ⟨t, [Qmj a, eSep ⟨0, 0⟩ a]⟩ = true := by
 have h1 : btw a 0 ((t.length : Int) - 1) = true := Qeq.2 ⟨by omega, by omega⟩
 unfold netB
 simp only [ht, Qr0, Qkc, Qve, Qmj, eSep, h1, List.length_cons, List.length_nil, List.all_cons, List.all_nil, Bool.true_and, Bool.and_true]
 simp [Qi8, btw, getI, outl, pq]
include ht ha hb in
theorem Zdj : netB ⟨t, [Qmj a, eSep ⟨0, 0⟩ a, eSep ⟨1, 1⟩ b]⟩ = true := by
 have h1 : btw a 0 ((t.length : Int) - 1) = true := Qeq.2 ⟨by omega, by omega⟩
 have h2 : btw b 0 ((t.length : Int) - 1) = true := Qeq.2 ⟨by omega, by omega⟩
 have h3 : b ≤ a := by omega
 unfold netB
 simp only [ht, Qr0, Qkc, Qve, Qmj, eSep, h1, h2, List.length_cons, List.length_nil, List.all_cons, List.all_nil, Bool.true_and, Bool.and_true]
 simp [Qi8, btw, getI, outl, pq, h3]
end
theorem Q6a {s : GStream} (hs : StrV s) {n : GNet} (hw : wcn n n.Elements.length = 1) : fedI n [s] = 0 := by
 unfold fedI
 rw [hw]
 have h1 := hs.m1
 have h2 := hs.g1
 rw [Qib, if_neg (by omega), if_neg (by omega)]
 simp [Qj0.2 hs]
theorem Qz2 (k a : Int) (f : List GPort) (l : List Int) (am : Int) : widI ⟨k, f, a, am, 1000000, 1, l⟩ 0 = 1000000 := by
 unfold widI; simp
theorem Q8k {t : List GRow} {a : Int} {s : GStream} (hs : StrV s) : Qrt ⟨t, [Qmj a, eSep ⟨0, 0⟩ a]⟩ [0, 0] [s] = .inr ([[s], [(flG (Qcg t a) s).Steam, (flG (Qcg t a) s).Water]], [⟨0, 0, 0, 0⟩, ⟨0, 0, 0, (flG (Qcg t a) s).Scale⟩], [0, 0 + (flG (Qcg t a) s).Scale], 0 + 0 + (flG (Qcg t a) s).Steam.Mass) := by
 have h1 := hs.m1
 unfold Qrt
 simp only [Qmj, eSep, List.zip_cons_cons, List.zip_nil_right, Qru, insE, if_true, List.take_succ_cons, List.take_zero, Qib, Qz2, if_neg (show ¬ s.Mass > 1000000 by omega), List.nil_append, show ((4 : Int) = 1) = False by simp, if_false, List.map_cons, List.map_nil]
 have e1 : Qiu [(actE t ⟨1, [], a, 0, 1000000, 1, []⟩ s).1] ⟨0, 0⟩ = s := rfl
 have e2 : actE t ⟨1, [], a, 0, 1000000, 1, []⟩ s = ([s], ⟨0, 0, 0, 0⟩, 0) := rfl
 have e3 : actE t ⟨4, [⟨0, 0⟩], a, 0, 1000000, 1, []⟩ s = ([(flG (Qcg t a) s).Steam, (flG (Qcg t a) s).Water], ⟨0, 0, 0, (flG (Qcg t a) s).Scale⟩, (flG (Qcg t a) s).Steam.Mass) := rfl
 rw [e1, if_neg (show ¬ s.Mass > 1000000 by omega), e2, e3]
 rfl
theorem Q1y {t : List GRow} {a b : Int} {s : GStream} (hs : StrV s) (hr : RowV (Qcg t a)) : Qrt ⟨t, [Qmj a, eSep ⟨0, 0⟩ a, eSep ⟨1, 1⟩ b]⟩ [0, 0, 0] [s] =
  .inr ([[s], [(flG (Qcg t a) s).Steam, (flG (Qcg t a) s).Water], [(flG (Qcg t b) (flG (Qcg t a) s).Water).Steam, (flG (Qcg t b) (flG (Qcg t a) s).Water).Water]],
   [⟨0, 0, 0, 0⟩, ⟨0, 0, 0, (flG (Qcg t a) s).Scale⟩, ⟨0, 0, 0, (flG (Qcg t b) (flG (Qcg t a) s).Water).Scale⟩], [0, 0 + (flG (Qcg t a) s).Scale, 0 + (flG (Qcg t b) (flG (Qcg t a) s).Water).Scale], 0 + 0 + (flG (Qcg t a) s).Steam.Mass + (flG (Qcg t b) (flG (Qcg t a) s).Water).Steam.Mass) := by
 have h1 := hs.m1
 have hw := (Qpz hr hs).wa.m1
 unfold Qrt
 simp only [Qmj, eSep, List.zip_cons_cons, List.zip_nil_right, Qru, insE, if_true, List.take_succ_cons, List.take_zero, Qib, Qz2, if_neg (show ¬ s.Mass > 1000000 by omega), List.nil_append, show ((4 : Int) = 1) = False by simp, if_false, List.map_cons, List.map_nil]
 have e1 : Qiu [(actE t ⟨1, [], a, 0, 1000000, 1, []⟩ s).1] ⟨0, 0⟩ = s := rfl
 have e2 : actE t ⟨1, [], a, 0, 1000000, 1, []⟩ s = ([s], ⟨0, 0, 0, 0⟩, 0) := rfl
 have e3 : actE t ⟨4, [⟨0, 0⟩], a, 0, 1000000, 1, []⟩ s = ([(flG (Qcg t a) s).Steam, (flG (Qcg t a) s).Water], ⟨0, 0, 0, (flG (Qcg t a) s).Scale⟩, (flG (Qcg t a) s).Steam.Mass) := rfl
 rw [e1, if_neg (show ¬ s.Mass > 1000000 by omega), e2, e3]
 have e4 : Qiu ([([s] : List GStream)] ++ [[(flG (Qcg t a) s).Steam, (flG (Qcg t a) s).Water]]) ⟨1, 1⟩ = (flG (Qcg t a) s).Water := rfl
 have e5 : ∀ q : GStream, actE t ⟨4, [⟨1, 1⟩], b, 0, 1000000, 1, []⟩ q = ([(flG (Qcg t b) q).Steam, (flG (Qcg t b) q).Water], ⟨0, 0, 0, (flG (Qcg t b) q).Scale⟩, (flG (Qcg t b) q).Steam.Mass) := fun _ => rfl
 dsimp only
 rw [e4, if_neg (show ¬ (flG (Qcg t a) s).Water.Mass > 1000000 by omega), e5]
 rfl
theorem Q4x {N : Nat} (hN : 1001 ≤ N) {t : List GRow} (ht : tabB t = true) (hl : t.length ≤ 1000) {a b : Int} (ha : 1 ≤ a ∧ a ≤ (t.length : Int) - 1) (hb : 0 ≤ b ∧ b < a) {s : GStream} (hs : StrV s) :
  Qij N t [a, b] s = some ([flG (Qcg t a) s, flG (Qcg t b) (flG (Qcg t a) s).Water], 0) := by
 have ba : btw a 0 ((t.length : Int) - 1) = true := Qeq.2 ⟨by omega, by omega⟩
 have bb : btw b 0 ((t.length : Int) - 1) = true := Qeq.2 ⟨by omega, by omega⟩
 obtain ⟨ga, ra⟩ := Qse ht ba
 obtain ⟨gb, rb⟩ := Qse ht bb
 have hc : Qgf N [a, b] t = some true := by
  have : Qcy N [a, b] t = some ([a, b].any fun x => !btw x 0 ((t.length : Int) - 1)) := by
   unfold Qcy Qd0 Qcv
   refine Qgw (F := Qb3 N [a, b] t fun _ => some (-1)) (k := fun _ => some (-1)) (q := fun x => Qfn N x t) (fun n y => rfl) (fun x => ?_) rfl (by simp) (by simp; omega)
   simp only [Qfn, Qfk, Qh8, Option.bind_some]
   rw [Qbw (x := (t.length : Int) - 1) (by omega) (by omega)]
  unfold Qgf
  rw [this]
  simp [ba, bb]
 obtain ⟨m, rfl⟩ : ∃ m, N = m + 3 := ⟨N - 3, by omega⟩
 have hw := (Qpz ra hs).wa
 have ofa : Qdv (m + 3) ⟨Qcg t a⟩ s = some (flG (Qcg t a) s) := Zdf _ ra hs
 have ofb : Qdv (m + 3) ⟨Qcg t b⟩ (flG (Qcg t a) s).Water = some (flG (Qcg t b) (flG (Qcg t a) s).Water) := Zdf _ rb hw
 have ga' : getI t a = some (Qcg t a) := ga
 have gb' : getI t b = some (Qcg t b) := gb
 have hcol : Qc5 (m + 3) [a, b] t s.Mass s.Heat s.Silica s.Gas = some [flG (Qcg t a) s, flG (Qcg t b) (flG (Qcg t a) s).Water] := by
  unfold Qc5 Qcc Qf2
  simp only [Qcv]
  have e : Qbv (m + 3) [a, b] t (m + 3) 0 s.Mass s.Heat s.Silica s.Gas = some [flG (Qcg t a) s, flG (Qcg t b) (flG (Qcg t a) s).Water] := by
   rw [Qbv]
   simp only [show decide ((0 : Int) < (([a, b] : List Int).length : Int)) = true from rfl, cond_true, show getI [a, b] 0 = some a from rfl, Option.bind_some, Qe7, ga', show w64 ((0 : Int) + 1) = 1 from by decide]
   refine (congrArg (fun z => Option.bind z _) ofa).trans ?_
   rw [Option.bind_some, Qbv]
   simp only [show decide ((1 : Int) < (([a, b] : List Int).length : Int)) = true from rfl, cond_true, show getI [a, b] 1 = some b from rfl, Option.bind_some, Qe7, gb', show w64 ((1 : Int) + 1) = 2 from by decide]
   refine (congrArg (yld _) ((congrArg (fun z => Option.bind z _) ofb).trans (?_ : _ = some [flG (Qcg t b) (flG (Qcg t a) s).Water]))).trans rfl
   rw [Option.bind_some, Qbv]
   rfl
  rw [e]
  rfl
 unfold Qij
 rw [Qqi hl hN, ht]
 simp only [Qcv, Option.bind_some, Bool.not_true, cond_false, Qh8, hc, Qps, Qj0.2 hs, Qf3, hcol]
 rw [show btw (([a, b] : List Int).length : Int) 1 20 = true from rfl, Qdw]
 simp only [Bool.not_true, cond_false, chk]
 rw [show (decide ((0 : Nat) ≤ 1) && decide ((1 : Int) ≤ (([a, b] : List Int).length : Int)) && decide ((([a, b] : List Int).length : Int) ≤ (([a, b] : List Int).length : Int))) = true from rfl, show decide ((0 : Int) < ((([a, b] : List Int).drop (1 : Int).toNat).length : Int)) = true from rfl]
 simp only [cond_true, show w64 ((0 : Int) + 1) = 1 from by decide, show getI [a, b] 1 = some b from rfl, show getI [a, b] 0 = some a from rfl, Option.bind_some, decide_eq_false (show ¬ b ≥ a by omega), cond_false]
 rw [Qdw]
 rfl
theorem Zax {n : GNet} {st : List Int} {ws : List GStream} {r : Qyu} (h : Qkj n st ws = 0) (ht : Qrt n st ws = .inr r) : doA n st ws = (⟨r.1, r.2.1, r.2.2.1⟩, 0, 0) := by
 unfold doA
 rw [if_pos h, ht]
 rfl
theorem Qxy (t : List GRow) (s : GStream) (lv ls : Int) (gt : Q0n t) (_ : Qso s) (g1 : Zgr lv) (g2 : Zgr ls) : Qgr (t.length + 2000) t s lv ls = some true := by
 generalize hNN : t.length + 2000 = N
 have hN : 1001 ≤ N := by omega
 have hl : t.length ≤ 9223372036854775807 := gt.1
 have u1 : 0 ≤ lv ∧ lv ≤ 255 := bounds_u8 g1
 have u2 : 0 ≤ ls ∧ ls ≤ 255 := bounds_u8 g2
 unfold Qgr
 simp only [Q4u, Option.bind_some, Q87]
 rw [Q48 hl (by omega), Option.bind_some]
 cases ht : tabB t with
 | false => rfl
 | true =>
  rw [Bool.not_true, cond_false, Q49, Option.bind_some]
  cases hsb : strB s with
  | false => rfl
  | true =>
   have hs := Qj0.1 hsb
   have hlen : 2 ≤ t.length ∧ t.length ≤ 20 := by
    have ht' := ht
    unfold tabB at ht'
    simp only [Bool.and_eq_true] at ht'
    have := Qeq.1 ht'.1.1
    omega
   rw [Bool.not_true, cond_false]
   rw [Qbw (x := (t.length : Int) - 1) (by omega) (by omega), Qbw (x := lv) (by omega) (by omega), Qbw (x := ls) (by omega) (by omega)]
   have m1 : 0 ≤ lv.tmod ((t.length : Int) - 1) ∧ lv.tmod ((t.length : Int) - 1) < (t.length : Int) - 1 := by
    rw [Int.tmod_eq_emod_of_nonneg u1.1]
    exact ⟨Int.emod_nonneg _ (by omega), Int.emod_lt_of_pos _ (by omega)⟩
   rw [Qbw (x := 1 + lv.tmod ((t.length : Int) - 1)) (by omega) (by omega)]
   generalize ha' : 1 + lv.tmod ((t.length : Int) - 1) = a
   have ha : 1 ≤ a ∧ a ≤ (t.length : Int) - 1 := by omega
   have hb : 0 ≤ ls.tmod a ∧ ls.tmod a < a := by
    rw [Int.tmod_eq_emod_of_nonneg u2.1]
    exact ⟨Int.emod_nonneg _ (by omega), Int.emod_lt_of_pos _ (by omega)⟩
   simp only [chk, show ((t.length : Int) - 1 != 0) = true by rw [bne_iff_ne]; omega, cond_true, show (a != 0) = true by rw [bne_iff_ne]; omega, Option.bind_some]
   generalize ls.tmod a = b at hb ⊢
   have ra := (Qse ht (Qeq.2 ⟨show 0 ≤ a by omega, ha.2⟩)).2
   have w2 : wcn ⟨t, [Qmj a, eSep ⟨0, 0⟩ a]⟩ 2 = 1 := rfl
   have w3 : wcn ⟨t, [Qmj a, eSep ⟨0, 0⟩ a, eSep ⟨1, 1⟩ b]⟩ 3 = 1 := rfl
   have r2 : Qkj ⟨t, [Qmj a, eSep ⟨0, 0⟩ a]⟩ [0, 0] [s] = 0 := by
    unfold Qkj
    rw [Zdk ht ha, Q6a hs w2]
    rfl
   have r3 : Qkj ⟨t, [Qmj a, eSep ⟨0, 0⟩ a, eSep ⟨1, 1⟩ b]⟩ [0, 0, 0] [s] = 0 := by
    unfold Qkj
    rw [Zdj ht ha hb, Q6a hs w3]
    rfl
   have s2 : Small ⟨t, [Qmj a, eSep ⟨0, 0⟩ a]⟩ := ⟨by dsimp only; omega, by simp, fun x hx => by simp at hx; rcases hx with rfl | rfl <;> simp [Qmj, eSep]⟩
   have s3 : Small ⟨t, [Qmj a, eSep ⟨0, 0⟩ a, eSep ⟨1, 1⟩ b]⟩ := ⟨by dsimp only; omega, by simp, fun x hx => by simp at hx; rcases hx with rfl | rfl | rfl <;> simp [Qmj, eSep]⟩
   have d2 : Qjb N ⟨t, ([(⟨1, [], a, 0, 1000000, 1, []⟩ : GElement), (⟨4, [(⟨0, 0⟩ : GPort)], a, 0, 1000000, 1, []⟩ : GElement), (⟨4, [(⟨1, 1⟩ : GPort)], b, 0, 1000000, 1, []⟩ : GElement)]).take ((2 : Int).toNat - 0)⟩ [0, 0] [s] = _ := Zaw s2 hN (st := [0, 0]) (ws := [s]) (by simp) (by simp)
   have d3 : Qjb N ⟨t, [(⟨1, [], a, 0, 1000000, 1, []⟩ : GElement), (⟨4, [(⟨0, 0⟩ : GPort)], a, 0, 1000000, 1, []⟩ : GElement), (⟨4, [(⟨1, 1⟩ : GPort)], b, 0, 1000000, 1, []⟩ : GElement)]⟩ [0, 0, 0] [s] = _ := Zaw s3 hN (st := [0, 0, 0]) (ws := [s]) (by simp) (by simp)
   have ef : Qsp t a s = (flG (Qcg t a) s, 0) := by
    unfold Qsp Qcg
    rw [ht, hsb, Qeq.2 ⟨show 0 ≤ a by omega, ha.2⟩]; rfl
   rw [Zax r2 (Q8k hs)] at d2
   rw [Zax r3 (Q1y hs ra)] at d3
   rw [Q8m (by omega) hN]
   simp only [Option.bind_some, Qge, d2, d3, Q0o hN (show t.length ≤ 1000 by omega), ef, Q4x hN ht (by omega) ha hb hs]
   generalize flG (Qcg t a) s = p
   generalize flG (Qcg t b) p.Water = q
   simp [getI]
end Go.Proofs.Ytmbhnllcfmiajaa
