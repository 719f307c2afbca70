/-
  Functions of the program: what they compute, as plain functions, and that they do. No conditions.
-/
import Derived.Test.YtlhakkkjgdbdpaaX12
namespace Go.Proofs.Ytlhakkkjgdbdpaa
open Go.RowKit
def Qgm (_N : Nat) (p0 : (List Int)) : Option (List Int) :=
  chk (decide ((0 + p0.length) * 8 ≤ 140737488355328)) <|
  some p0
def z148_1 (p0 : (List Int)) : Slot := .gro 1 ((p0 : List Int).map Qab)
set_option maxRecDepth 100000 in
set_option maxHeartbeats 4000000 in
theorem Qk0 (N : Nat) (p0 : (List Int)) (r : (List Int)) (h : Qgm N p0 = some r) : Spec Try.prog 37 [(.dat 1 ((p0 : List Int).map Qab))] [] (.gro 0 3 1 (r.length)) [(.gro 1 ((r : List Int).map Qab))] := by
  refine Qad Try.func37 rfl 1 (nle rfl) (fun X φ0 w0 hφ0 => ?_)
  unfold Qgm at h
  refine Qbt ?_
  refine wx tbk [] trivial ?_
  obtain ⟨ha2, h⟩ := cko h
  refine wx tbk [(1, ⟨[((.const (.slice none 0 0)), nilS), (.tmp 3, (.dat 1 ((p0 : List Int).map Qab)))], [(0, .unused), (1, .unused)], (.gro 1 3 1 (p0.length)), [(0, .dead), (1, (z148_1 p0))], false⟩)] ⟨astep_appN (c := Qab) (b := p0) rfl Try.underlying37 te3 rfl (Qrx Qab Qvt _) ha2 (by decide) rfl, trivial⟩ ?_
  refine wmr (mto (n := 5) (l' := [(2, (.gro 0 3 1 (p0.length)))]) (own' := [(z148_1 p0)]) [(2, (.gro 1 3 1 (p0.length)))] [1] [(z148_1 p0)] hφ0 (pc (.rn (Qh1 rfl)) pn) (qc (Qgj Qaa) qn)) ?_
  refine Qae ?_
  obtain rfl := osi h
  exact ⟨_, Mor.rfl, Qce (vs := [(.gro 0 3 1 (p0.length))]) ⟨rot (by kernel_rfl), trivial⟩ rfl (NLt.gro _ _ _ _ (by decide)) (by kernel_rfl) (Qaj (snl_grow Qaa _) Qbm)⟩
end Go.Proofs.Ytlhakkkjgdbdpaa
