/-
  Functions of the program: what they compute, as plain functions, and that they do. No conditions.
-/
import Derived.Test.YtlhakkkjgdbdpaaX9
namespace Go.Proofs.Ytlhakkkjgdbdpaa
open Go.RowKit
def Qk6 (N : Nat) (p0 : GStream) (p1 : Int) : Option (GStream × Int × Int) :=
  (Qgu N ([p0])).bind fun x2 =>
  bif (!x2) then
   some ((⟨0, 0, 0, 0⟩ : GStream), 0, 1)
  else
   (Qa8 N p1 0 4000).bind fun x5 =>
   bif (!x5) then
    some ((⟨0, 0, 0, 0⟩ : GStream), 0, 2)
   else
    (some (if (w64 (p0.Heat - (w64 (p1 * p0.Mass)))) > 0 then w64 (p0.Heat - (w64 (p1 * p0.Mass))) else 0)).bind fun x7 =>
    some ((⟨p0.Mass, w64 (p0.Heat - x7), p0.Silica, p0.Gas⟩ : GStream), x7, 0)
def z84_1 (p0 : GStream) : AV := .agg [(I (p0.Mass)), (I (p0.Heat)), (I (p0.Silica)), (I (p0.Gas))]
def z84_3 (p0 : GStream) : AV := .dat 4 (([p0] : List GStream).map Qa9)
def z84_4 : AV := .agg [(I (0)), (I (0)), (I (0)), (I (0))]
set_option maxRecDepth 100000 in
set_option maxHeartbeats 4000000 in
theorem Qov (N : Nat) (p0 : GStream) (p1 : Int) (r : (GStream × Int × Int)) (h : Qk6 N p0 p1 = some r) : Spec Try.prog 27 [(.agg (Qa9 p0)), (I p1)] [] (.tup [(.agg (Qa9 r.1)), (I r.2.1), (I r.2.2)]) [] := by
  refine Qac Try.func27 rfl 0 (nle rfl) (fun X φ0 w0 hφ0 => ?_)
  unfold Qk6 at h
  refine wx tbk [] trivial ?_
  refine wsq ?_
  refine Qak ?_
  obtain ⟨x2, hf1, h⟩ := bno h
  refine wx tbk [(1, rp [(.tmp 8, (z84_1 p0))] (z84_3 p0)), (2, rp [fu 74, (.tmp 9, (z84_3 p0))] (B x2))] ⟨Qbk (vs := [(z84_1 p0)]) rfl Try.underlying143 ti60 tz60 rfl (by decide) rfl (by decide) (by rfl) (by rfl) (by rfl) rfl, apc (first := []) (cap := []) (vs := [(z84_3 p0)]) rfl Qqx (Qg7 N ([p0]) _ hf1) rfl rfl (nlc (nld Qc2 _) nl0) nll rfl, trivial⟩ ?_
  rcases bft ((!x2)) with hc3 | hc3
  ·replace h := Qav hc3 h
   refine wft hc3 (by kernel_rfl) ?_
   refine wx tbk [(0, rp [] z84_4)] ⟨Qaj (vs := []) rfl ts60 tz60 rfl (by rfl) rfl, trivial⟩ ?_
   refine Qab ?_
   refine Qb2 ?_
   refine Qau ?_
   obtain rfl := osi h
   exact fend ⟨[z84_4, I 0, I 1], ⟨Qbv (n := 1) (m := 4) (j := 0) (i := 0) (xs := [[I 0, I 0, I 0, I 0]]) (by kernel_rfl) (by kernel_rfl) ti60 (by decide) rfl (nle rfl) rfl, rot (by kernel_rfl), rot (by kernel_rfl), trivial⟩, rfl⟩ (NLt.tup _ (nlc (NLt.agg _ (nlc nll (nlc nll (nlc nll (nlc nll nl0))))) (nlc nll (nlc nll nl0))))
  ·replace h := Qaw hc3 h
   refine wfn hc3 (by kernel_rfl) ?_
   obtain ⟨x5, hf4, h⟩ := bno h
   refine wx tbk [(1, rp [fu 65, (.tmp 14, I p1), ci 0, ci 4000] (B x5))] ⟨apc (first := []) (cap := []) (vs := [I p1, I 0, I 4000]) rfl Qbs (Qae N p1 0 4000 _ hf4) rfl rfl (nlc nll (nlc nll (nlc nll nl0))) nll rfl, trivial⟩ ?_
   rcases bft ((!x5)) with hc6 | hc6
   ·replace h := Qav hc6 h
    refine wft hc6 (by kernel_rfl) ?_
    refine wx tbk [(0, rp [] z84_4)] ⟨Qaj (vs := []) rfl ts60 tz60 rfl (by rfl) rfl, trivial⟩ ?_
    refine Qab ?_
    refine Qb2 ?_
    refine Qau ?_
    obtain rfl := osi h
    exact fend ⟨[z84_4, I 0, I 2], ⟨Qbv (n := 1) (m := 4) (j := 0) (i := 0) (xs := [[I 0, I 0, I 0, I 0]]) (by kernel_rfl) (by kernel_rfl) ti60 (by decide) rfl (nle rfl) rfl, rot (by kernel_rfl), rot (by kernel_rfl), trivial⟩, rfl⟩ (NLt.tup _ (nlc (NLt.agg _ (nlc nll (nlc nll (nlc nll (nlc nll nl0))))) (nlc nll (nlc nll nl0))))
   ·replace h := Qaw hc6 h
    refine wfn hc6 (by kernel_rfl) ?_
    refine Qao ?_
    refine bln ?_
    refine thn ?_
    obtain ⟨x7, hl8, h⟩ := bno h
    refine wx tbk [(7, rp [ci 0, (.tmp 24, (I (w64 (p0.Heat - (w64 (p1 * p0.Mass))))))] (I x7))] ⟨Qep hl8 (Qlg rfl), trivial⟩ ?_
    refine wx tbk [] trivial ?_
    refine wx tbk [] trivial ?_
    refine Qab ?_
    obtain rfl := osi h
    exact fend ⟨[(.agg [I p0.Mass, (I (w64 (p0.Heat - x7))), I p0.Silica, I p0.Gas]), I x7, I 0], ⟨Qbv (n := 1) (m := 4) (j := 0) (i := 0) (xs := [[I p0.Mass, (I (w64 (p0.Heat - x7))), I p0.Silica, I p0.Gas]]) (by kernel_rfl) (by kernel_rfl) ti60 (by decide) rfl (nle rfl) rfl, rot (by kernel_rfl), rot (by kernel_rfl), trivial⟩, rfl⟩ (NLt.tup _ (nlc (NLt.agg _ (nlc nll (nlc nll (nlc nll (nlc nll nl0))))) (nlc nll (nlc nll nl0))))
end Go.Proofs.Ytlhakkkjgdbdpaa
