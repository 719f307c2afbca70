/-
  Plain laws of sharing steam: sums over units, no sharing has more work than a bound, and what is taken has as much as its prices' bound. No conditions.
-/
import Derived.Test.YtlhakkkjgdbdpaaPGre
namespace Go.Proofs.Ytlhakkkjgdbdpaa
open Go.RowKit
def hS (F : Nat → Int) (p : List Int) : Nat → Nat → Int
 | 0, _ => 0
 | n + 1, k => p.getD k 0 * F k + hS F p n (k + 1)
theorem Qxd : ∀ (l : List (GPart × Int)), (∀ q ∈ l, 0 ≤ q.2 ∧ q.2 ≤ q.1.Width) → 0 ≤ sumM l ∧ sumM l ≤ capI (l.map (·.1))
 | [], _ => ⟨Int.le_refl _, Int.le_refl _⟩
 | q :: l, h => by
  have ih := Qxd l fun x hx => h x (List.mem_cons_of_mem _ hx)
  have := h q (List.mem_cons_self ..)
  rw [List.map_cons, sumM, capI]
  omega
theorem recU_mem {T : List (GPiece × Int)} {i : Nat} {x : GPart × Int} (h : x ∈ recU T i) : ∃ q ∈ T, q.1.unit.toNat = i ∧ x = (q.1.Part, q.2) := by
 unfold recU at h
 obtain ⟨q, hq, rfl⟩ := List.mem_map.1 h
 have := List.mem_filter.1 hq
 exact ⟨q, this.1, by simpa using this.2, rfl⟩
section
variable {h : List Int} {us : List GUnit} {D : List GPiece}
structure DOK (h : List Int) (us : List GUnit) (D : List GPiece) : Prop where
 k : ShOK h us
 st : Stb (Qlx 0 us) D
theorem DOK.mem (hd : DOK h us D) {p : GPiece} (hp : p ∈ D) : ∃ (i : Nat) (u : GUnit), us[i]? = some u ∧ p.unit = (i : Int) ∧ p.Part ∈ u.Parts := by
 obtain ⟨i, u, h1, h2, h3⟩ := Qmz us 0 p ((Stb.mem hd.st.eqf).1 hp)
 exact ⟨i, u, h1, by simpa using h2, h3⟩
theorem DOK.prt (hd : DOK h us D) {p : GPiece} (hp : p ∈ D) : (1 ≤ p.Part.Width ∧ p.Part.Width ≤ 100000) ∧ 0 ≤ p.Part.Gain ∧ p.Part.Gain ≤ 1000 := by
 obtain ⟨i, u, h1, _, h3⟩ := hd.mem hp
 exact prt_mem (hd.k.ub u (List.mem_of_getElem? h1)) p.Part h3
theorem DOK.wide (hd : DOK h us D) : Wide D := fun _ hp => (hd.prt hp).1.1
theorem DOK.nn (hd : DOK h us D) (k : Nat) : 0 ≤ fro h k := (fro_bd hd.k.h1 hd.k.hm k).1
theorem DOK.parts (hd : DOK h us D) {i : Nat} {u : GUnit} (hu : us[i]? = some u) : (recU (gre us D (fro h)) i).map (·.1) = u.Parts := by
 rw [recU_fst, gre_fst]
 have e := Qng us 0 i u hu
 rw [Nat.zero_add] at e
 have hs := Qxe u.Parts 1000 ((i : Nat) : Int) (Qtg (hd.k.ub u (List.mem_of_getElem? hu))).2.2
 rw [Qvk hd.st _ (by rw [e]; exact hs.1), e, List.map_map]
 exact (List.map_congr_left (fun _ _ => rfl)).trans (List.map_id _)
def massG (h : List Int) (us : List GUnit) (D : List GPiece) : Nat → Int := massT (gre us D (fro h))
theorem DOK.cap (hd : DOK h us D) {i : Nat} {u : GUnit} (hu : us[i]? = some u) : 0 ≤ massG h us D i ∧ massG h us D i ≤ capI u.Parts := by
 have h1 := Qxd (recU (gre us D (fro h)) i) (fun x hx => by
  obtain ⟨q, hq, _, rfl⟩ := recU_mem hx
  exact (gre_bd D (fro h) hd.wide hd.nn q hq).2)
 rw [hd.parts hu, Qwv] at h1
 exact h1
end
end Go.Proofs.Ytlhakkkjgdbdpaa
