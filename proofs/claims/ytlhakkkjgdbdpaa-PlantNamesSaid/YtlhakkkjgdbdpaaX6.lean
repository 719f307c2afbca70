/-
  Functions of the program: what they compute, as plain functions, and that they do. No conditions.
-/
import Derived.Test.YtlhakkkjgdbdpaaX5
namespace Go.Proofs.Ytlhakkkjgdbdpaa
open Go.RowKit
def Qin (N : Nat) (p0 : GUnit) : Option Int :=
  (Qd9 N p0).bind fun x2 =>
  bif (!x2) then
   some 1
  else
   some 0
def z77_0 (p0 : GUnit) : AV := .dat 2 ((p0.Parts : List GPart).map Qby)
set_option maxRecDepth 100000 in
set_option maxHeartbeats 4000000 in
theorem Qi7 (N : Nat) (p0 : GUnit) (r : Int) (h : Qin N p0 = some r) : Spec Try.prog 24 [(.agg (Qbo p0))] [] (I r) [] := by
  refine Qac Try.func24 rfl 0 (nle rfl) (fun X φ0 w0 hφ0 => ?_)
  unfold Qin at h
  refine wx tbk [] trivial ?_
  refine wsq ?_
  obtain ⟨x2, hf1, h⟩ := bno h
  refine wx tbk [(1, rp [fu 64, (.tmp 3, (.agg [I p0.Inlet, (z77_0 p0)]))] (B x2))] ⟨apc (first := []) (cap := []) (vs := [(.agg [I p0.Inlet, (z77_0 p0)])]) rfl Qnm (Qdr N p0 _ hf1) rfl rfl (nlc (NLt.agg _ (nlc nll (nlc (nld Qbc _) nl0))) nl0) nll rfl, trivial⟩ ?_
  rcases bft ((!x2)) with hc3 | hc3
  ·replace h := Qav hc3 h
   refine wft hc3 (by kernel_rfl) ?_
   refine wx tbk [] trivial ?_
   refine Qab ?_
   refine Qau ?_
   obtain rfl := osi h
   exact fend ⟨[I 1], ⟨rot (by kernel_rfl), trivial⟩, rfl⟩ nll
  ·replace h := Qaw hc3 h
   refine wfn hc3 (by kernel_rfl) ?_
   refine Qao ?_
   refine thn ?_
   refine wx tbk [] trivial ?_
   refine Qab ?_
   obtain rfl := osi h
   exact fend ⟨[I 0], ⟨rot (by kernel_rfl), trivial⟩, rfl⟩ nll
end Go.Proofs.Ytlhakkkjgdbdpaa
