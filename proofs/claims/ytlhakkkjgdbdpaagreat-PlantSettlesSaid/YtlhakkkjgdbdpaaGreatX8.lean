/-
  Functions of the program: what they compute, as plain functions, and that they do. No conditions.
-/
import Derived.Test.YtlhakkkjgdbdpaaGreatX7
namespace Go.Proofs.YtlhakkkjgdbdpaaGreat
set_option maxRecDepth 100000
set_option maxHeartbeats 4000000
open Go.RowKit
def Qjb (_N : Nat) (p0 : GRow) (p1 : GStream) : Option GParts :=
  (some (w64 (p1.Heat - (w64 (p1.Mass * p0.Liquid))))).bind fun x1 =>
  Qck (fun y3 =>
    Qck (fun _ =>
      Qck (fun ⟨y6, y7, y8, y9, y10, y11⟩ =>
        Qck (fun y13 =>
          (some (if (w64 (p1.Silica - (w64 (y9 * p0.Silica)))) > 0 then w64 (p1.Silica - (w64 (y9 * p0.Silica))) else 0)).bind fun x15 =>
          some (⟨(⟨y6, y7, 0, y8⟩ : GStream), (⟨y9, y10, w64 (p1.Silica - x15), y11⟩ : GStream), y13, x15⟩ : GParts)) fun k14 : Int → Option GParts =>
        bif (decide (x1 > 0)) then
         k14 (w64 (y10 - (w64 (y9 * p0.Liquid))))
        else
         k14 (0)) fun k12 : Int × Int × Int × Int × Int × Int → Option GParts =>
      bif (decide (y3 > 0)) then
       k12 (y3, w64 (y3 * p0.Vapour), p1.Gas, w64 (p1.Mass - y3), w64 (p1.Heat - (w64 (y3 * p0.Vapour))), 0)
      else
       k12 (0, 0, 0, p1.Mass, p1.Heat, p1.Gas)) fun k5 : Unit → Option GParts =>
    bif (y3 == p1.Mass) then
     bif (decide (y3 > 0)) then
      some (⟨(⟨y3, p1.Heat, 0, p1.Gas⟩ : GStream), (⟨0, 0, 0, 0⟩ : GStream), 0, p1.Silica⟩ : GParts)
     else
      k5 ()
    else
     k5 ()) fun k4 : Int → Option GParts =>
  bif (decide (x1 > 0)) then
   bif (decide (p1.Heat ≥ (w64 (p1.Mass * p0.Vapour)))) then
    k4 (p1.Mass)
   else
    chk ((w64 (p0.Vapour - p0.Liquid)) != 0) <|
    (some (w64 (x1.tdiv (w64 (p0.Vapour - p0.Liquid))))).bind fun x24 =>
    k4 (x24)
  else
   k4 (0)
def Qk5 (p0 : GRow) : Slot := .own 5 [[(I (p0.T)), (I (p0.P)), (I (p0.Liquid)), (I (p0.Vapour)), (I (p0.Silica))]]
def Qk4 (p1 : GStream) : Slot := .own 4 [[(I (p1.Mass)), (I (p1.Heat)), (I (p1.Silica)), (I (p1.Gas))]]
def Qjt : Slot := .own 10 [[(I (0)), (I (0)), (I (0)), (I (0)), (I (0)), (I (0)), (I (0)), (I (0)), (I (0)), (I (0))]]
theorem Qri (N : Nat) (p0 : GRow) (p1 : GStream) (r : GParts) (h : Qjb N p0 p1 = some r) : Spec Tryz.prog 43 [(.agg (Qa6 p0)), (.agg (Qaq p1))] [] (.agg (Quu r)) [] := by
  refine Qab Tryz.func43 rfl 0 (nle rfl) (fun X φ0 w0 hφ0 hd0 => ?_)
  unfold Qjb at h
  refine wx tbk [] trivial ?_
  obtain ⟨x1, hl2, h⟩ := bno h
  refine wx tbk [(8, rp [(.tmp 15, (I (w64 (p1.Heat - (w64 (p1.Mass * p0.Liquid))))))] (I x1))] ⟨Qdu hl2 (aas rfl), trivial⟩ ?_
  refine wx tbk [] trivial ?_
  obtain ⟨k4, hk_k4, h⟩ := jko h
  refine wjn (τ := Int) (fun t => k4 t = some r) (fun y3 => ⟨mk 118 [(2, .ref 0 5 0 0), (3, .ref 1 4 0 0), (4, .ref 2 10 0 0), (5, I x1), (6, I y3)], [(Qk5 p0), (Qk4 p1), Qjt]⟩) (fun y3 h => ?_) ?_
  ·subst hk_k4
   refine wx tbk [] trivial ?_
   obtain ⟨k5, hk_k5, h⟩ := jko h
   refine wjn (τ := Unit) (fun t => k5 t = some r) (fun _ => ⟨mk 118 [(2, .ref 0 5 0 0), (3, .ref 1 4 0 0), (4, .ref 2 10 0 0), (5, I x1), (6, I y3), (7, .ref 3 10 0 0)], [(Qk5 p0), (Qk4 p1), Qjt, Qjt]⟩) (fun t h => ?_) ?_
   ·subst hk_k5
    refine wx tbk [] trivial ?_
    obtain ⟨k12, hk_k12, h⟩ := jko h
    refine wjn (τ := Int × Int × Int × Int × Int × Int) (fun t => k12 t = some r) (fun ⟨y6, y7, y8, y9, y10, y11⟩ => ⟨mk 118 [(2, .ref 0 5 0 0), (3, .ref 1 4 0 0), (4, .ref 2 10 0 0), (5, I x1), (7, .ref 3 10 0 0)], [(Qk5 p0), (Qk4 p1), Qjt, (.own 10 [[I y6, I y7, I 0, I y8, I y9, I y10, I p1.Silica, I y11, I 0, I 0]])]⟩) (fun t h => ?_) ?_
    ·subst hk_k12
     obtain ⟨y6, y7, y8, y9, y10, y11⟩ := t
     obtain ⟨k14, hk_k14, h⟩ := jko h
     refine wjn (τ := Int) (fun t => k14 t = some r) (fun y13 => ⟨mk 118 [(2, .ref 0 5 0 0), (3, .ref 1 4 0 0), (4, .ref 2 10 0 0), (7, .ref 3 10 0 0)], [(Qk5 p0), (Qk4 p1), Qjt, (.own 10 [[I y6, I y7, I 0, I y8, I y9, I y10, I p1.Silica, I y11, I y13, I 0]])]⟩) (fun y13 h => ?_) ?_
     ·subst hk_k14
      obtain ⟨x15, hl16, h⟩ := bno h
      refine wx tbk [(9, rp [ci 0, (.tmp 107, (I (w64 (p1.Silica - (w64 (y9 * p0.Silica))))))] (I x15))] ⟨Qdu hl16 (Qji rfl), trivial⟩ ?_
      refine wx tbk [] trivial ?_
      refine wx tbk [] trivial ?_
      refine Qaa ?_
      obtain rfl := osi h
      exact fend ⟨[(.agg [I y6, I y7, I 0, I y8, I y9, I y10, (I (w64 (p1.Silica - x15))), I y11, I y13, I x15])], ⟨Qas (n := 2) (m := 10) (j := 0) (i := 0) (xs := [[I y6, I y7, I 0, I y8, I y9, I y10, (I (w64 (p1.Silica - x15))), I y11, I y13, I x15]]) (by kernel_rfl) (by kernel_rfl) Zcn (by decide) rfl (nle rfl) rfl, trivial⟩, rfl⟩ (NLt.agg _ (nlc nll (nlc nll (nlc nll (nlc nll (nlc nll (nlc nll (nlc nll (nlc nll (nlc nll (nlc nll nl0)))))))))))
     ·skip
      refine wx tbk [] trivial ?_
      rcases bft ((decide (x1 > 0))) with hc17 | hc17
      ·replace h := Qav hc17 h
       refine wft hc17 (by kernel_rfl) ?_
       refine wx1 tbk [] trivial ?_
       refine thn ?_
       exact ⟨(w64 (y10 - (w64 (y9 * p0.Liquid)))), h, (mto (n := 118) [(2, .ref 0 5 0 0), (3, .ref 1 4 0 0), (4, .ref 2 10 0 0), (7, .ref 3 10 0 0)] [0, 1, 2, 3] [(Qk5 p0), (Qk4 p1), Qjt, (.own 10 [[I y6, I y7, I 0, I y8, I y9, I y10, I p1.Silica, I y11, (I (w64 (y10 - (w64 (y9 * p0.Liquid))))), I 0]])] hφ0 (pc (.rn (rqr rfl)) (pc (.rn (rqr rfl)) (pc (.rn (rqr rfl)) (pc (.rn (rqr rfl)) pn)))) (qc (spb (lc rwl (lc rwl (lc rwl (lc rwl (lc rwl ln)))))) (qc (spb (lc rwl (lc rwl (lc rwl (lc rwl ln))))) (qc (spb (lc rwl (lc rwl (lc rwl (lc rwl (lc rwl (lc rwl (lc rwl (lc rwl (lc rwl (lc rwl ln))))))))))) (qc (spb (lc rwl (lc rwl (lc rwl (lc rwl (lc rwl (lc rwl (lc rwl (lc rwl (lc rwl (lc rwl ln))))))))))) qn)))))⟩
      ·replace h := Qaw hc17 h
       refine wfn hc17 (by kernel_rfl) ?_
       refine Qak ?_
       refine thn ?_
       exact ⟨(0), h, (mto (n := 118) [(2, .ref 0 5 0 0), (3, .ref 1 4 0 0), (4, .ref 2 10 0 0), (7, .ref 3 10 0 0)] [0, 1, 2, 3] [(Qk5 p0), (Qk4 p1), Qjt, (.own 10 [[I y6, I y7, I 0, I y8, I y9, I y10, I p1.Silica, I y11, I 0, I 0]])] hφ0 (pc (.rn (rqr rfl)) (pc (.rn (rqr rfl)) (pc (.rn (rqr rfl)) (pc (.rn (rqr rfl)) pn)))) (qc (spb (lc rwl (lc rwl (lc rwl (lc rwl (lc rwl ln)))))) (qc (spb (lc rwl (lc rwl (lc rwl (lc rwl ln))))) (qc (spb (lc rwl (lc rwl (lc rwl (lc rwl (lc rwl (lc rwl (lc rwl (lc rwl (lc rwl (lc rwl ln))))))))))) (qc (spb (lc rwl (lc rwl (lc rwl (lc rwl (lc rwl (lc rwl (lc rwl (lc rwl (lc rwl (lc rwl ln))))))))))) qn)))))⟩
    ·skip
     refine wx tbk [] trivial ?_
     rcases bft ((decide (y3 > 0))) with hc18 | hc18
     ·replace h := Qav hc18 h
      refine wft hc18 (by kernel_rfl) ?_
      refine wx tbk [(7, rp [(.tmp 62, I y3), (.tmp 66, (I (w64 (y3 * p0.Vapour)))), (.tmp 68, I p1.Gas)] (.agg [I y3, (I (w64 (y3 * p0.Vapour))), I 0, I p1.Gas]))] ⟨Qan (vs := [I y3, (I (w64 (y3 * p0.Vapour))), I p1.Gas]) rfl ts32 tz32 rfl (by rfl) rfl, trivial⟩ ?_
      refine wx1 tbk [(13, rp [(.tmp 74, (I (w64 (p1.Mass - y3)))), (.tmp 81, (I (w64 (p1.Heat - (w64 (y3 * p0.Vapour)))))), (.tmp 83, I p1.Silica)] (.agg [(I (w64 (p1.Mass - y3))), (I (w64 (p1.Heat - (w64 (y3 * p0.Vapour))))), I p1.Silica, I 0]))] ⟨Qan (vs := [(I (w64 (p1.Mass - y3))), (I (w64 (p1.Heat - (w64 (y3 * p0.Vapour))))), I p1.Silica]) rfl ts32 tz32 rfl (by rfl) rfl, trivial⟩ ?_
      refine thn ?_
      exact ⟨(y3, w64 (y3 * p0.Vapour), p1.Gas, w64 (p1.Mass - y3), w64 (p1.Heat - (w64 (y3 * p0.Vapour))), 0), h, (mto (n := 118) [(2, .ref 0 5 0 0), (3, .ref 1 4 0 0), (4, .ref 2 10 0 0), (5, I x1), (7, .ref 3 10 0 0)] [0, 1, 2, 3] [(Qk5 p0), (Qk4 p1), Qjt, (.own 10 [[I y3, (I (w64 (y3 * p0.Vapour))), I 0, I p1.Gas, (I (w64 (p1.Mass - y3))), (I (w64 (p1.Heat - (w64 (y3 * p0.Vapour))))), I p1.Silica, I 0, I 0, I 0]])] hφ0 (pc (.rn (rqr rfl)) (pc (.rn (rqr rfl)) (pc (.rn (rqr rfl)) (pc rwl (pc (.rn (rqr rfl)) pn))))) (qc (spb (lc rwl (lc rwl (lc rwl (lc rwl (lc rwl ln)))))) (qc (spb (lc rwl (lc rwl (lc rwl (lc rwl ln))))) (qc (spb (lc rwl (lc rwl (lc rwl (lc rwl (lc rwl (lc rwl (lc rwl (lc rwl (lc rwl (lc rwl ln))))))))))) (qc (spb (lc rwl (lc rwl (lc rwl (lc rwl (lc rwl (lc rwl (lc rwl (lc rwl (lc rwl (lc rwl ln))))))))))) qn)))))⟩
     ·replace h := Qaw hc18 h
      refine wfn hc18 (by kernel_rfl) ?_
      refine Qak ?_
      refine thn ?_
      exact ⟨(0, 0, 0, p1.Mass, p1.Heat, p1.Gas), h, (mto (n := 118) [(2, .ref 0 5 0 0), (3, .ref 1 4 0 0), (4, .ref 2 10 0 0), (5, I x1), (7, .ref 3 10 0 0)] [0, 1, 2, 3] [(Qk5 p0), (Qk4 p1), Qjt, (.own 10 [[I 0, I 0, I 0, I 0, I p1.Mass, I p1.Heat, I p1.Silica, I p1.Gas, I 0, I 0]])] hφ0 (pc (.rn (rqr rfl)) (pc (.rn (rqr rfl)) (pc (.rn (rqr rfl)) (pc rwl (pc (.rn (rqr rfl)) pn))))) (qc (spb (lc rwl (lc rwl (lc rwl (lc rwl (lc rwl ln)))))) (qc (spb (lc rwl (lc rwl (lc rwl (lc rwl ln))))) (qc (spb (lc rwl (lc rwl (lc rwl (lc rwl (lc rwl (lc rwl (lc rwl (lc rwl (lc rwl (lc rwl ln))))))))))) (qc (spb (lc rwl (lc rwl (lc rwl (lc rwl (lc rwl (lc rwl (lc rwl (lc rwl (lc rwl (lc rwl ln))))))))))) qn)))))⟩
   ·skip
    rcases bft ((y3 == p1.Mass)) with hb19 | hb19
    ·replace h := Qav hb19 h
     refine wx tbk [(4, rp [(.tmp 42, (B ((y3 == p1.Mass))))] (B true))] ⟨asb hb19 (amv rfl), trivial⟩ ?_
     rcases bft ((decide (y3 > 0))) with hc20 | hc20
     ·replace h := Qav hc20 h
      refine wft hc20 (by kernel_rfl) ?_
      refine wx tbk [(5, rp [(.tmp 47, I y3), (.tmp 49, I p1.Heat), (.tmp 51, I p1.Gas)] (.agg [I y3, I p1.Heat, I 0, I p1.Gas]))] ⟨Qan (vs := [I y3, I p1.Heat, I p1.Gas]) rfl ts32 tz32 rfl (by rfl) rfl, trivial⟩ ?_
      refine wx tbk [] trivial ?_
      refine wx tbk [] trivial ?_
      refine Qaa ?_
      refine Qao ?_
      obtain rfl := osi h
      exact fend ⟨[(.agg [I y3, I p1.Heat, I 0, I p1.Gas, I 0, I 0, I 0, I 0, I 0, I p1.Silica])], ⟨Qas (n := 2) (m := 10) (j := 0) (i := 0) (xs := [[I y3, I p1.Heat, I 0, I p1.Gas, I 0, I 0, I 0, I 0, I 0, I p1.Silica]]) (by kernel_rfl) (by kernel_rfl) Zcn (by decide) rfl (nle rfl) rfl, trivial⟩, rfl⟩ (NLt.agg _ (nlc nll (nlc nll (nlc nll (nlc nll (nlc nll (nlc nll (nlc nll (nlc nll (nlc nll (nlc nll nl0)))))))))))
     ·replace h := Qaw hc20 h
      refine wfn hc20 (by kernel_rfl) ?_
      refine Qak ?_
      refine thn ?_
      exact ⟨(), h, (mto (n := 118) [(2, .ref 0 5 0 0), (3, .ref 1 4 0 0), (4, .ref 2 10 0 0), (5, I x1), (6, I y3), (7, .ref 3 10 0 0)] [0, 1, 2, 3] [(Qk5 p0), (Qk4 p1), Qjt, Qjt] hφ0 (pc (.rn (rqr rfl)) (pc (.rn (rqr rfl)) (pc (.rn (rqr rfl)) (pc rwl (pc rwl (pc (.rn (rqr rfl)) pn)))))) (qc (spb (lc rwl (lc rwl (lc rwl (lc rwl (lc rwl ln)))))) (qc (spb (lc rwl (lc rwl (lc rwl (lc rwl ln))))) (qc (spb (lc rwl (lc rwl (lc rwl (lc rwl (lc rwl (lc rwl (lc rwl (lc rwl (lc rwl (lc rwl ln))))))))))) (qc (spb (lc rwl (lc rwl (lc rwl (lc rwl (lc rwl (lc rwl (lc rwl (lc rwl (lc rwl (lc rwl ln))))))))))) qn)))))⟩
    ·replace h := Qaw hb19 h
     refine wx tbk [(4, rp [(.tmp 42, (B ((y3 == p1.Mass))))] (B false))] ⟨asb hb19 (amv rfl), trivial⟩ ?_
     refine Qep (by kernel_rfl) ?_
     refine Qak ?_
     refine thn ?_
     exact ⟨(), h, (mto (n := 118) [(2, .ref 0 5 0 0), (3, .ref 1 4 0 0), (4, .ref 2 10 0 0), (5, I x1), (6, I y3), (7, .ref 3 10 0 0)] [0, 1, 2, 3] [(Qk5 p0), (Qk4 p1), Qjt, Qjt] hφ0 (pc (.rn (rqr rfl)) (pc (.rn (rqr rfl)) (pc (.rn (rqr rfl)) (pc rwl (pc rwl (pc (.rn (rqr rfl)) pn)))))) (qc (spb (lc rwl (lc rwl (lc rwl (lc rwl (lc rwl ln)))))) (qc (spb (lc rwl (lc rwl (lc rwl (lc rwl ln))))) (qc (spb (lc rwl (lc rwl (lc rwl (lc rwl (lc rwl (lc rwl (lc rwl (lc rwl (lc rwl (lc rwl ln))))))))))) (qc (spb (lc rwl (lc rwl (lc rwl (lc rwl (lc rwl (lc rwl (lc rwl (lc rwl (lc rwl (lc rwl ln))))))))))) qn)))))⟩
  ·skip
   rcases bft ((decide (x1 > 0))) with hb21 | hb21
   ·replace h := Qav hb21 h
    refine wx tbk [(2, rp [(.tmp 17, (B ((decide (x1 > 0)))))] (B true))] ⟨asb hb21 (amv rfl), trivial⟩ ?_
    rcases bft ((decide (p1.Heat ≥ (w64 (p1.Mass * p0.Vapour))))) with hc22 | hc22
    ·replace h := Qav hc22 h
     refine wft hc22 (by kernel_rfl) ?_
     refine wx1 tbk [] trivial ?_
     refine thn ?_
     exact ⟨(p1.Mass), h, (mto (n := 118) [(2, .ref 0 5 0 0), (3, .ref 1 4 0 0), (4, .ref 2 10 0 0), (5, I x1), (6, I p1.Mass)] [0, 1, 2] [(Qk5 p0), (Qk4 p1), Qjt] hφ0 (pc (.rn (rqr rfl)) (pc (.rn (rqr rfl)) (pc (.rn (rqr rfl)) (pc rwl (pc rwl pn))))) (qc (spb (lc rwl (lc rwl (lc rwl (lc rwl (lc rwl ln)))))) (qc (spb (lc rwl (lc rwl (lc rwl (lc rwl ln))))) (qc (spb (lc rwl (lc rwl (lc rwl (lc rwl (lc rwl (lc rwl (lc rwl (lc rwl (lc rwl (lc rwl ln))))))))))) qn))))⟩
    ·replace h := Qaw hc22 h
     refine wfn hc22 (by kernel_rfl) ?_
     refine wx tbk [] trivial ?_
     refine wft hb21 (by kernel_rfl) ?_
     obtain ⟨hz23, h⟩ := cko h
     obtain ⟨x24, hl25, h⟩ := bno h
     refine wx1 tbk [(6, rp [(.tmp 32, I x1), (.tmp 37, (I (w64 (p0.Vapour - p0.Liquid))))] (I (w64 (x1.tdiv (w64 (p0.Vapour - p0.Liquid)))))), (7, rp [(.tmp 38, (I (w64 (x1.tdiv (w64 (p0.Vapour - p0.Liquid))))))] (I x24))] ⟨Qph rfl (Q58 hz23), Qdu hl25 (aas rfl), trivial⟩ ?_
     refine thn ?_
     exact ⟨(x24), h, (mto (n := 118) [(2, .ref 0 5 0 0), (3, .ref 1 4 0 0), (4, .ref 2 10 0 0), (5, I x1), (6, I x24)] [0, 1, 2] [(Qk5 p0), (Qk4 p1), Qjt] hφ0 (pc (.rn (rqr rfl)) (pc (.rn (rqr rfl)) (pc (.rn (rqr rfl)) (pc rwl (pc rwl pn))))) (qc (spb (lc rwl (lc rwl (lc rwl (lc rwl (lc rwl ln)))))) (qc (spb (lc rwl (lc rwl (lc rwl (lc rwl ln))))) (qc (spb (lc rwl (lc rwl (lc rwl (lc rwl (lc rwl (lc rwl (lc rwl (lc rwl (lc rwl (lc rwl ln))))))))))) qn))))⟩
   ·replace h := Qaw hb21 h
    refine wx tbk [(2, rp [(.tmp 17, (B ((decide (x1 > 0)))))] (B false))] ⟨asb hb21 (amv rfl), trivial⟩ ?_
    refine Qep (by kernel_rfl) ?_
    refine wx tbk [] trivial ?_
    refine wfn hb21 (by kernel_rfl) ?_
    refine Qak ?_
    refine thn ?_
    exact ⟨(0), h, (mto (n := 118) [(2, .ref 0 5 0 0), (3, .ref 1 4 0 0), (4, .ref 2 10 0 0), (5, I x1), (6, I 0)] [0, 1, 2] [(Qk5 p0), (Qk4 p1), Qjt] hφ0 (pc (.rn (rqr rfl)) (pc (.rn (rqr rfl)) (pc (.rn (rqr rfl)) (pc rwl (pc rwl pn))))) (qc (spb (lc rwl (lc rwl (lc rwl (lc rwl (lc rwl ln)))))) (qc (spb (lc rwl (lc rwl (lc rwl (lc rwl ln))))) (qc (spb (lc rwl (lc rwl (lc rwl (lc rwl (lc rwl (lc rwl (lc rwl (lc rwl (lc rwl (lc rwl ln))))))))))) qn))))⟩
def Qdf (N : Nat) (p0 : GUnit) (k2 : Int → Option Int) : Nat → Int → Int → Option Int
  | 0, _, _ => none
  | n7 + 1, y3, y4 =>
    bif (decide (y4 < (p0.Parts.length : Int))) then
     (getI p0.Parts y4).bind fun x9 =>
     Qdf N p0 k2 n7 (w64 (y3 + x9.Width)) (w64 (y4 + 1))
    else
     k2 (y3)
def Qgu (N : Nat) (p0 : GUnit) : Option Int :=
  Qck (fun y1 =>
    some y1) fun k2 : Int → Option Int =>
  Qdf N p0 k2 N 0 0
def Q34 (p0 : GUnit) : AV := .dat 2 ((p0.Parts : List GPart).map Qa4)
def Qzw (p0 : GUnit) : Slot := .own 2 [[(I (p0.Inlet)), (Q34 p0)]]
theorem Qo4 (N : Nat) (p0 : GUnit) (r : Int) (h : Qgu N p0 = some r) : Spec Tryz.prog 71 [(.agg (Qcd p0))] [] (I r) [] := by
  refine Qab Tryz.func71 rfl 0 (nle rfl) (fun X φ0 w0 hφ0 hd0 => ?_)
  unfold Qgu at h
  refine wx tbk [] trivial ?_
  refine wx tbk [] trivial ?_
  obtain ⟨k2, hk_k2, h⟩ := jko h
  refine wjn (τ := Int) (fun t => k2 t = some r) (fun y1 => ⟨mk 21 [(3, I y1)], []⟩) (fun y1 h => ?_) ?_
  ·subst hk_k2
   refine wx tbk [] trivial ?_
   refine Qaa ?_
   obtain rfl := osi h
   exact fend ⟨[I y1], ⟨rot (by kernel_rfl), trivial⟩, rfl⟩ nll
  ·skip
   refine wx tbk [] trivial ?_
   refine Qag ?_
   refine wmr (mto (n := 21) (l' := [(1, .ref 0 2 0 0), (3, I 0), (4, I 0)]) (own' := [(Qzw p0)]) [(1, .ref 0 2 0 0), (3, I 0), (4, I 0)] [0] [(Qzw p0)] hφ0 (pc (.rn (rqr rfl)) (pc rwl (pc rwl pn))) (qc (spb (lc rwl (lc (.rn (.plain _ (nld Qap _))) ln))) qn)) ?_
   refine Qce (τ := Int × Int) (fun n t => Qdf N p0 k2 n t.1 t.2 = some r) (fun ⟨y3, y4⟩ => ⟨mk 21 [(1, .ref 0 2 0 0), (3, I y3), (4, I y4)], [(Qzw p0)]⟩) (fun t h => by rw [Qdf] at h; cases h) (fun n7 ih t h => ?_) N (0, 0) h
   obtain ⟨y3, y4⟩ := t
   rw [Qdf] at h
   skip
   refine wsq ?_
   refine wx tbk [(3, rp [(.tmp 7, (Q34 p0))] (I ((p0.Parts.length : Int))))] ⟨alm (c := Qa4) (l := p0.Parts) (aln rfl Tryz.underlying24 rfl), trivial⟩ ?_
   rcases bft ((decide (y4 < (p0.Parts.length : Int)))) with hc8 | hc8
   ·replace h := Qav hc8 h
    refine wft hc8 (by kernel_rfl) ?_
    refine Qak ?_
    refine thn ?_
    refine wsq ?_
    refine Qag ?_
    obtain ⟨x9, hg10, h⟩ := bno h
    obtain ⟨hi11, hj12⟩ := gsm hg10
    refine wx1 tbk [(4, rp [(.tmp 14, (Q34 p0)), (.tmp 15, I y4)] (.dptr (Qa4 (x9)) 0))] ⟨aid rfl Tryz.underlying24 Qv0 rfl rfl hi11 (mgt Qa4 hj12) rfl, trivial⟩ ?_
    refine bln ?_
    refine thn ?_
    refine wx1 tbk [] trivial ?_
    refine thn ?_
    exact arm (mto (n := 21) [(1, .ref 0 2 0 0), (3, (I (w64 (y3 + x9.Width)))), (4, (I (w64 (y4 + 1))))] [0] [(Qzw p0)] hφ0 (pc (.rn (rqr rfl)) (pc rwl (pc rwl pn))) (qc (spb (lc rwl (lc (.rn (.plain _ (nld Qap _))) ln))) qn)) (ih (w64 (y3 + x9.Width), w64 (y4 + 1)) h)
   ·replace h := Qaw hc8 h
    refine wfn hc8 (by kernel_rfl) ?_
    refine Qbk ?_
    refine Qax ?_
    refine Qax ?_
    refine Qbj rfl ?_
    refine thn ?_
    exact ⟨(y3), h, (mto (n := 21) [(3, I y3)] [] [] hφ0 (pc rwl pn) qn)⟩
def Qd9 (N : Nat) (p0 : GUnit) (k2 : Int → Option Int) : Nat → Int → Int → Int → Option Int
  | 0, _, _, _ => none
  | n9 + 1, y3, y4, y5 =>
    bif (decide (y5 < (p0.Parts.length : Int))) then
     (getI p0.Parts y5).bind fun x11 =>
     (some (if x11.Width < y3 then x11.Width else y3)).bind fun x15 =>
     (some (w64 (y4 + (w64 (x15 * x11.Gain))))).bind fun x17 =>
     Qd9 N p0 k2 n9 (w64 (y3 - x15)) x17 (w64 (y5 + 1))
    else
     k2 (y4)
def Qi9 (N : Nat) (p0 : GUnit) (p1 : Int) : Option Int :=
  Qck (fun y1 =>
    some y1) fun k2 : Int → Option Int =>
  Qd9 N p0 k2 N p1 0 0
def Qzv (p0 : GUnit) : AV := .dat 2 ((p0.Parts : List GPart).map Qa4)
def Qzu (p0 : GUnit) : Slot := .own 2 [[(I (p0.Inlet)), (Qzv p0)]]
theorem Qrh (N : Nat) (p0 : GUnit) (p1 : Int) (r : Int) (h : Qi9 N p0 p1 = some r) : Spec Tryz.prog 72 [(.agg (Qcd p0)), (I p1)] [] (I r) [] := by
  refine Qab Tryz.func72 rfl 0 (nle rfl) (fun X φ0 w0 hφ0 hd0 => ?_)
  unfold Qi9 at h
  refine wx tbk [] trivial ?_
  refine wx tbk [] trivial ?_
  obtain ⟨k2, hk_k2, h⟩ := jko h
  refine wjn (τ := Int) (fun t => k2 t = some r) (fun y1 => ⟨mk 37 [(5, I y1)], []⟩) (fun y1 h => ?_) ?_
  ·subst hk_k2
   refine wx tbk [] trivial ?_
   refine Qaa ?_
   obtain rfl := osi h
   exact fend ⟨[I y1], ⟨rot (by kernel_rfl), trivial⟩, rfl⟩ nll
  ·skip
   refine wx tbk [] trivial ?_
   refine Qag ?_
   refine wmr (mto (n := 37) (l' := [(1, I p1), (2, .ref 0 2 0 0), (5, I 0), (6, I 0)]) (own' := [(Qzu p0)]) [(1, I p1), (2, .ref 0 2 0 0), (5, I 0), (6, I 0)] [0] [(Qzu p0)] hφ0 (pc rwl (pc (.rn (rqr rfl)) (pc rwl (pc rwl pn)))) (qc (spb (lc rwl (lc (.rn (.plain _ (nld Qap _))) ln))) qn)) ?_
   refine Qce (τ := Int × Int × Int) (fun n t => Qd9 N p0 k2 n t.1 t.2.1 t.2.2 = some r) (fun ⟨y3, y4, y5⟩ => ⟨mk 37 [(1, I y3), (2, .ref 0 2 0 0), (5, I y4), (6, I y5)], [(Qzu p0)]⟩) (fun t h => by rw [Qd9] at h; cases h) (fun n9 ih t h => ?_) N (p1, 0, 0) h
   obtain ⟨y3, y4, y5⟩ := t
   rw [Qd9] at h
   skip
   refine wsq ?_
   refine wx tbk [(3, rp [(.tmp 10, (Qzv p0))] (I ((p0.Parts.length : Int))))] ⟨alm (c := Qa4) (l := p0.Parts) (aln rfl Tryz.underlying24 rfl), trivial⟩ ?_
   rcases bft ((decide (y5 < (p0.Parts.length : Int)))) with hc10 | hc10
   ·replace h := Qav hc10 h
    refine wft hc10 (by kernel_rfl) ?_
    refine Qak ?_
    refine thn ?_
    refine wsq ?_
    refine Qag ?_
    obtain ⟨x11, hg12, h⟩ := bno h
    obtain ⟨hi13, hj14⟩ := gsm hg12
    obtain ⟨x15, hl16, h⟩ := bno h
    refine wx tbk [(4, rp [(.tmp 17, (Qzv p0)), (.tmp 18, I y5)] (.dptr (Qa4 (x11)) 0)), (7, rp [(.tmp 15, I y3), (.tmp 21, I x11.Width)] (I ((if x11.Width < y3 then x11.Width else y3)))), (8, rp [(.tmp 22, (I ((if x11.Width < y3 then x11.Width else y3))))] (I x15))] ⟨aid rfl Tryz.underlying24 Qv0 rfl rfl hi13 (mgt Qa4 hj14) rfl, Qkj rfl, Qdu hl16 (aas rfl), trivial⟩ ?_
    obtain ⟨x17, hl18, h⟩ := bno h
    refine wx tbk [(5, rp [(.tmp 26, (Qzv p0)), (.tmp 27, I y5)] (.dptr (Qa4 (x11)) 0)), (10, rp [(.tmp 32, (I (w64 (y4 + (w64 (x15 * x11.Gain))))))] (I x17))] ⟨aid rfl Tryz.underlying24 Qv0 rfl rfl hi13 (mgt Qa4 hj14) rfl, Qdu hl18 (aas rfl), trivial⟩ ?_
    refine wx1 tbk [] trivial ?_
    refine bln ?_
    refine thn ?_
    refine wx1 tbk [] trivial ?_
    refine thn ?_
    exact arm (mto (n := 37) [(1, (I (w64 (y3 - x15)))), (2, .ref 0 2 0 0), (5, I x17), (6, (I (w64 (y5 + 1))))] [0] [(Qzu p0)] hφ0 (pc rwl (pc (.rn (rqr rfl)) (pc rwl (pc rwl pn)))) (qc (spb (lc rwl (lc (.rn (.plain _ (nld Qap _))) ln))) qn)) (ih (w64 (y3 - x15), x17, w64 (y5 + 1)) h)
   ·replace h := Qaw hc10 h
    refine wfn hc10 (by kernel_rfl) ?_
    refine Qbk ?_
    refine Qax ?_
    refine Qax ?_
    refine Qbj rfl ?_
    refine thn ?_
    exact ⟨(y4), h, (mto (n := 37) [(5, I y4)] [] [] hφ0 (pc rwl pn) qn)⟩
def Qh7 (N : Nat) (p0 : GUnit) (p1 : GStream) : Option (GStream × Int × Int) :=
  (Qgu N p0).bind fun x2 =>
  bif (decide (p1.Mass > x2)) then
   some ((⟨0, 0, 0, 0⟩ : GStream), 0, 2)
  else
   (Qi9 N p0 p1.Mass).bind fun x5 =>
   bif (decide (p1.Heat < x5)) then
    some ((⟨0, 0, 0, 0⟩ : GStream), 0, 9)
   else
    some ((⟨p1.Mass, w64 (p1.Heat - x5), p1.Silica, p1.Gas⟩ : GStream), x5, 0)
def Qzy (p0 : GUnit) : AV := .agg [(I (p0.Inlet)), (.dat 2 ((p0.Parts : List GPart).map Qa4))]
def Qzx : AV := .agg [(I (0)), (I (0)), (I (0)), (I (0))]
theorem Qqo (N : Nat) (p0 : GUnit) (p1 : GStream) (r : (GStream × Int × Int)) (h : Qh7 N p0 p1 = some r) : Spec Tryz.prog 44 [(.agg (Qcd p0)), (.agg (Qaq p1))] [] (.tup [(.agg (Qaq r.1)), (I r.2.1), (I r.2.2)]) [] := by
  refine Qab Tryz.func44 rfl 0 (nle rfl) (fun X φ0 w0 hφ0 hd0 => ?_)
  unfold Qh7 at h
  refine wx tbk [] trivial ?_
  refine wsq ?_
  obtain ⟨x2, hf1, h⟩ := bno h
  refine wxd tbk [(3, rp [fu 71, (.tmp 10, (Qzy p0))] (I x2))] ⟨apc (first := []) (cap := []) (vs := [(Qzy p0)]) rfl Zd3 (Qo4 N p0 _ hf1) rfl rfl (nlc (NLt.agg _ (nlc nll (nlc (nld Qap _) nl0))) nl0) nll rfl, trivial⟩ ?_
  rcases bft ((decide (p1.Mass > x2))) with hc3 | hc3
  ·replace h := Qav hc3 h
   refine wft hc3 (by kernel_rfl) ?_
   refine wx tbk [(0, rp [] Qzx)] ⟨Qan (vs := []) rfl ts32 tz32 rfl (by rfl) rfl, trivial⟩ ?_
   refine Qaa ?_
   refine Qao ?_
   obtain rfl := osi h
   exact fend ⟨[Qzx, I 0, I 2], ⟨Qas (n := 2) (m := 4) (j := 0) (i := 0) (xs := [[I 0, I 0, I 0, I 0]]) (by kernel_rfl) (by kernel_rfl) ti32 (by decide) rfl (nle rfl) rfl, rot (by kernel_rfl), rot (by kernel_rfl), trivial⟩, rfl⟩ (NLt.tup _ (nlc (NLt.agg _ (nlc nll (nlc nll (nlc nll (nlc nll nl0))))) (nlc nll (nlc nll nl0))))
  ·replace h := Qaw hc3 h
   refine wfn hc3 (by kernel_rfl) ?_
   refine Qak ?_
   refine thn ?_
   obtain ⟨x5, hf4, h⟩ := bno h
   refine wx tbk [(3, rp [fu 72, (.tmp 14, (Qzy p0)), (.tmp 16, I p1.Mass)] (I x5))] ⟨apc (first := []) (cap := []) (vs := [(Qzy p0), I p1.Mass]) rfl Zd2 (Qrh N p0 p1.Mass _ hf4) rfl rfl (nlc (NLt.agg _ (nlc nll (nlc (nld Qap _) nl0))) (nlc nll nl0)) nll rfl, trivial⟩ ?_
   refine wsq ?_
   refine wx tbk [] trivial ?_
   rcases bft ((decide (p1.Heat < x5))) with hc6 | hc6
   ·replace h := Qav hc6 h
    refine wft hc6 (by kernel_rfl) ?_
    refine wx tbk [(0, rp [] Qzx)] ⟨Qan (vs := []) rfl ts32 tz32 rfl (by rfl) rfl, trivial⟩ ?_
    refine Qaa ?_
    refine Qao ?_
    obtain rfl := osi h
    exact fend ⟨[Qzx, I 0, I 9], ⟨Qas (n := 2) (m := 4) (j := 0) (i := 0) (xs := [[I 0, I 0, I 0, I 0]]) (by kernel_rfl) (by kernel_rfl) ti32 (by decide) rfl (nle rfl) rfl, rot (by kernel_rfl), rot (by kernel_rfl), trivial⟩, rfl⟩ (NLt.tup _ (nlc (NLt.agg _ (nlc nll (nlc nll (nlc nll (nlc nll nl0))))) (nlc nll (nlc nll nl0))))
   ·replace h := Qaw hc6 h
    refine wfn hc6 (by kernel_rfl) ?_
    refine Qak ?_
    refine thn ?_
    refine wx tbk [] trivial ?_
    refine wx tbk [] trivial ?_
    refine Qaa ?_
    obtain rfl := osi h
    exact fend ⟨[(.agg [I p1.Mass, (I (w64 (p1.Heat - x5))), I p1.Silica, I p1.Gas]), I x5, I 0], ⟨Qas (n := 2) (m := 4) (j := 0) (i := 0) (xs := [[I p1.Mass, (I (w64 (p1.Heat - x5))), I p1.Silica, I p1.Gas]]) (by kernel_rfl) (by kernel_rfl) ti32 (by decide) rfl (nle rfl) rfl, rot (by kernel_rfl), rot (by kernel_rfl), trivial⟩, rfl⟩ (NLt.tup _ (nlc (NLt.agg _ (nlc nll (nlc nll (nlc nll (nlc nll nl0))))) (nlc nll (nlc nll nl0))))
def Qfb (N : Nat) (p0 : (List GStream)) (k5 : Int × Int × Int × Int → Option GStream) : Nat → Int → Int → Int → Int → Int → Option GStream
  | 0, _, _, _, _, _ => none
  | n16 + 1, y6, y7, y8, y9, y10 =>
    bif (decide (y6 < (p0.length : Int))) then
     (getI p0 y6).bind fun x18 =>
     Qfb N p0 k5 n16 (w64 (y6 + 1)) (w64 (y7 + x18.Mass)) (w64 (y8 + x18.Heat)) (w64 (y9 + x18.Silica)) (w64 (y10 + x18.Gas))
    else
     k5 (y7, y8, y9, y10)
def Qlc (N : Nat) (p0 : (List GStream)) : Option GStream :=
  Qck (fun ⟨y1, y2, y3, y4⟩ =>
    some (⟨y1, y2, y3, y4⟩ : GStream)) fun k5 : Int × Int × Int × Int → Option GStream =>
  Qfb N p0 k5 N 0 0 0 0 0
def Qqb : Slot := .own 4 [[(I (0)), (I (0)), (I (0)), (I (0))]]
def Qos (p0 : (List GStream)) : AV := .dat 4 ((p0 : List GStream).map Qaq)
theorem Quf (N : Nat) (p0 : (List GStream)) (r : GStream) (h : Qlc N p0 = some r) : Spec Tryz.prog 73 [(.dat 4 (p0.map Qaq))] [] (.agg (Qaq r)) [] := by
  refine Qab Tryz.func73 rfl 0 (nle rfl) (fun X φ0 w0 hφ0 hd0 => ?_)
  unfold Qlc at h
  refine wx tbk [] trivial ?_
  refine wx tbk [] trivial ?_
  obtain ⟨k5, hk_k5, h⟩ := jko h
  refine wjn (τ := Int × Int × Int × Int) (fun t => k5 t = some r) (fun ⟨y1, y2, y3, y4⟩ => ⟨mk 45 [(2, .ref 0 4 0 0), (3, .ref 1 4 0 0)], [Qqb, (.own 4 [[I y1, I y2, I y3, I y4]])]⟩) (fun t h => ?_) ?_
  ·subst hk_k5
   obtain ⟨y1, y2, y3, y4⟩ := t
   refine wx tbk [] trivial ?_
   refine Qaa ?_
   obtain rfl := osi h
   exact fend ⟨[(.agg [I y1, I y2, I y3, I y4])], ⟨Qas (n := 0) (m := 4) (j := 0) (i := 0) (xs := [[I y1, I y2, I y3, I y4]]) (by kernel_rfl) (by kernel_rfl) ti32 (by decide) rfl (nle rfl) rfl, trivial⟩, rfl⟩ (NLt.agg _ (nlc nll (nlc nll (nlc nll (nlc nll nl0)))))
  ·skip
   refine wx tbk [] trivial ?_
   refine Qag ?_
   refine wmr (mto (n := 45) (l' := [(0, (Qos p0)), (2, .ref 0 4 0 0), (3, .ref 1 4 0 0), (4, I 0)]) (own' := [Qqb, Qqb]) [(0, (Qos p0)), (2, .ref 0 4 0 0), (3, .ref 1 4 0 0), (4, I 0)] [0, 1] [Qqb, Qqb] hφ0 (pc (.rn (.plain _ (nld Qc2 _))) (pc (.rn (rqr rfl)) (pc (.rn (rqr rfl)) (pc rwl pn)))) (qc (spb (lc rwl (lc rwl (lc rwl (lc rwl ln))))) (qc (spb (lc rwl (lc rwl (lc rwl (lc rwl ln))))) qn))) ?_
   refine Qce (τ := Int × Int × Int × Int × Int) (fun n t => Qfb N p0 k5 n t.1 t.2.1 t.2.2.1 t.2.2.2.1 t.2.2.2.2 = some r) (fun ⟨y6, y7, y8, y9, y10⟩ => ⟨mk 45 [(0, (Qos p0)), (2, .ref 0 4 0 0), (3, .ref 1 4 0 0), (4, I y6)], [Qqb, (.own 4 [[I y7, I y8, I y9, I y10]])]⟩) (fun t h => by rw [Qfb] at h; cases h) (fun n16 ih t h => ?_) N (0, 0, 0, 0, 0) h
   obtain ⟨y6, y7, y8, y9, y10⟩ := t
   rw [Qfb] at h
   skip
   refine wsq ?_
   refine wx tbk [(2, rp [(.tmp 6, (Qos p0))] (I ((p0.length : Int))))] ⟨alm (c := Qaq) (l := p0) (aln rfl Tryz.underlying148 rfl), trivial⟩ ?_
   rcases bft ((decide (y6 < (p0.length : Int)))) with hc17 | hc17
   ·replace h := Qav hc17 h
    refine wft hc17 (by kernel_rfl) ?_
    refine Qak ?_
    refine thn ?_
    refine wsq ?_
    refine Qag ?_
    obtain ⟨x18, hg19, h⟩ := bno h
    obtain ⟨hi20, hj21⟩ := gsm hg19
    refine wy1 tbk [(4, rp [(.tmp 13, (Qos p0)), (.tmp 14, I y6)] (.dptr (Qaq (x18)) 0)), (12, rp [(.tmp 21, (Qos p0)), (.tmp 22, I y6)] (.dptr (Qaq (x18)) 0)), (20, rp [(.tmp 29, (Qos p0)), (.tmp 30, I y6)] (.dptr (Qaq (x18)) 0)), (28, rp [(.tmp 37, (Qos p0)), (.tmp 38, I y6)] (.dptr (Qaq (x18)) 0)), (32, rp [(.tmp 18, (I (w64 (y7 + x18.Mass)))), (.tmp 26, (I (w64 (y8 + x18.Heat)))), (.tmp 34, (I (w64 (y9 + x18.Silica)))), (.tmp 42, (I (w64 (y10 + x18.Gas))))] (.agg [(I (w64 (y7 + x18.Mass))), (I (w64 (y8 + x18.Heat))), (I (w64 (y9 + x18.Silica))), (I (w64 (y10 + x18.Gas)))]))] ⟨aid rfl Tryz.underlying148 ti32 rfl rfl hi20 (mgt Qaq hj21) rfl, aid rfl Tryz.underlying148 ti32 rfl rfl hi20 (mgt Qaq hj21) rfl, aid rfl Tryz.underlying148 ti32 rfl rfl hi20 (mgt Qaq hj21) rfl, aid rfl Tryz.underlying148 ti32 rfl rfl hi20 (mgt Qaq hj21) rfl, Qan (vs := [(I (w64 (y7 + x18.Mass))), (I (w64 (y8 + x18.Heat))), (I (w64 (y9 + x18.Silica))), (I (w64 (y10 + x18.Gas)))]) rfl ts32 tz32 rfl (by rfl) rfl, trivial⟩ ?_
    refine bln ?_
    refine thn ?_
    refine wx1 tbk [] trivial ?_
    refine thn ?_
    exact arm (mto (n := 45) [(0, (Qos p0)), (2, .ref 0 4 0 0), (3, .ref 1 4 0 0), (4, (I (w64 (y6 + 1))))] [0, 1] [Qqb, (.own 4 [[(I (w64 (y7 + x18.Mass))), (I (w64 (y8 + x18.Heat))), (I (w64 (y9 + x18.Silica))), (I (w64 (y10 + x18.Gas)))]])] hφ0 (pc (.rn (.plain _ (nld Qc2 _))) (pc (.rn (rqr rfl)) (pc (.rn (rqr rfl)) (pc rwl pn)))) (qc (spb (lc rwl (lc rwl (lc rwl (lc rwl ln))))) (qc (spb (lc rwl (lc rwl (lc rwl (lc rwl ln))))) qn))) (ih (w64 (y6 + 1), w64 (y7 + x18.Mass), w64 (y8 + x18.Heat), w64 (y9 + x18.Silica), w64 (y10 + x18.Gas)) h)
   ·replace h := Qaw hc17 h
    refine wfn hc17 (by kernel_rfl) ?_
    refine Qbk ?_
    refine Qax ?_
    refine Qax ?_
    refine Qbj rfl ?_
    refine thn ?_
    exact ⟨(y7, y8, y9, y10), h, (mto (n := 45) [(2, .ref 0 4 0 0), (3, .ref 1 4 0 0)] [0, 1] [Qqb, (.own 4 [[I y7, I y8, I y9, I y10]])] hφ0 (pc (.rn (rqr rfl)) (pc (.rn (rqr rfl)) pn)) (qc (spb (lc rwl (lc rwl (lc rwl (lc rwl ln))))) (qc (spb (lc rwl (lc rwl (lc rwl (lc rwl ln))))) qn)))⟩
def Qgt (N : Nat) (p0 : GStream) (p1 : GStream) (p2 : Int) : Option (GStream × Int × Int) :=
  (Qlc N ([p0, p1])).bind fun x2 =>
  Qck (fun _ =>
    bif (decide (x2.Gas > p2)) then
     some ((⟨0, 0, 0, 0⟩ : GStream), 0, 11)
    else
     some ((⟨x2.Mass, x2.Heat, x2.Silica, 0⟩ : GStream), x2.Gas, 0)) fun k3 : Unit → Option (GStream × Int × Int) =>
  bif (decide (x2.Mass > 1000000)) then
   some ((⟨0, 0, 0, 0⟩ : GStream), 0, 3)
  else
   bif (decide (x2.Gas > 1000000000)) then
    some ((⟨0, 0, 0, 0⟩ : GStream), 0, 3)
   else
    k3 ()
def Q9v (p0 : GStream) : AV := .agg [(I (p0.Mass)), (I (p0.Heat)), (I (p0.Silica)), (I (p0.Gas))]
def Q9u (p1 : GStream) : AV := .agg [(I (p1.Mass)), (I (p1.Heat)), (I (p1.Silica)), (I (p1.Gas))]
def Q32 (p0 : GStream) (p1 : GStream) : AV := .dat 4 (([p0, p1] : List GStream).map Qaq)
def Q9t : Slot := .own 4 [[(I (0)), (I (0)), (I (0)), (I (0))]]
def Q9s (x2 : GStream) : Slot := .own 4 [[(I (x2.Mass)), (I (x2.Heat)), (I (x2.Silica)), (I (x2.Gas))]]
def Qsq : AV := .agg [(I (0)), (I (0)), (I (0)), (I (0))]
theorem Qo3 (N : Nat) (p0 : GStream) (p1 : GStream) (p2 : Int) (r : (GStream × Int × Int)) (h : Qgt N p0 p1 p2 = some r) : Spec Tryz.prog 45 [(.agg (Qaq p0)), (.agg (Qaq p1)), (I p2)] [] (.tup [(.agg (Qaq r.1)), (I r.2.1), (I r.2.2)]) [] := by
  refine Qab Tryz.func45 rfl 0 (nle rfl) (fun X φ0 w0 hφ0 hd0 => ?_)
  unfold Qgt at h
  refine wx tbk [] trivial ?_
  obtain ⟨x2, hf1, h⟩ := bno h
  refine wx tbk [(2, rp [(.tmp 11, (Q9v p0)), (.tmp 12, (Q9u p1))] (Q32 p0 p1)), (3, rp [fu 73, (.tmp 13, (Q32 p0 p1))] (.agg [I x2.Mass, I x2.Heat, I x2.Silica, I x2.Gas]))] ⟨Qb8 (vs := [(Q9v p0), (Q9u p1)]) rfl Tryz.underlying148 ti32 tz32 rfl (by decide) rfl (by decide) (by rfl) (by rfl) (by rfl) rfl, apc (first := []) (cap := []) (vs := [(Q32 p0 p1)]) rfl Zd1 (Quf N ([p0, p1]) _ hf1) rfl rfl (nlc (nld Qc2 _) nl0) (NLt.agg _ (nlc nll (nlc nll (nlc nll (nlc nll nl0))))) rfl, trivial⟩ ?_
  obtain ⟨k3, hk_k3, h⟩ := jko h
  refine wjn (τ := Unit) (fun t => k3 t = some r) (fun _ => ⟨mk 33 [(2, I p2), (6, .ref 0 4 0 0), (9, .ref 1 4 0 0)], [Q9t, (Q9s x2)]⟩) (fun t h => ?_) ?_
  ·subst hk_k3
   refine wx tbk [] trivial ?_
   refine wsq ?_
   refine wx tbk [] trivial ?_
   rcases bft ((decide (x2.Gas > p2))) with hc4 | hc4
   ·replace h := Qav hc4 h
    refine wft hc4 (by kernel_rfl) ?_
    refine wx tbk [(0, rp [] Qsq)] ⟨Qan (vs := []) rfl ts32 tz32 rfl (by rfl) rfl, trivial⟩ ?_
    refine Qaa ?_
    refine Qao ?_
    obtain rfl := osi h
    exact fend ⟨[Qsq, I 0, I 11], ⟨Qas (n := 0) (m := 4) (j := 0) (i := 0) (xs := [[I 0, I 0, I 0, I 0]]) (by kernel_rfl) (by kernel_rfl) ti32 (by decide) rfl (nle rfl) rfl, rot (by kernel_rfl), rot (by kernel_rfl), trivial⟩, rfl⟩ (NLt.tup _ (nlc (NLt.agg _ (nlc nll (nlc nll (nlc nll (nlc nll nl0))))) (nlc nll (nlc nll nl0))))
   ·replace h := Qaw hc4 h
    refine wfn hc4 (by kernel_rfl) ?_
    refine Qak ?_
    refine thn ?_
    refine wx tbk [] trivial ?_
    refine wx tbk [] trivial ?_
    refine Qaa ?_
    obtain rfl := osi h
    exact fend ⟨[(.agg [I x2.Mass, I x2.Heat, I x2.Silica, I 0]), I x2.Gas, I 0], ⟨Qas (n := 0) (m := 4) (j := 0) (i := 0) (xs := [[I x2.Mass, I x2.Heat, I x2.Silica, I 0]]) (by kernel_rfl) (by kernel_rfl) ti32 (by decide) rfl (nle rfl) rfl, rot (by kernel_rfl), rot (by kernel_rfl), trivial⟩, rfl⟩ (NLt.tup _ (nlc (NLt.agg _ (nlc nll (nlc nll (nlc nll (nlc nll nl0))))) (nlc nll (nlc nll nl0))))
  ·skip
   rcases bft ((decide (x2.Mass > 1000000))) with hb5 | hb5
   ·replace h := Qav hb5 h
    refine wx tbk [(3, rp [(.tmp 17, (B ((decide (x2.Mass > 1000000)))))] (B true))] ⟨asb hb5 (amv rfl), trivial⟩ ?_
    refine Qcw (by kernel_rfl) ?_
    refine wx tbk [(0, rp [] Qsq)] ⟨Qan (vs := []) rfl ts32 tz32 rfl (by rfl) rfl, trivial⟩ ?_
    refine Qaa ?_
    refine Qao ?_
    obtain rfl := osi h
    exact fend ⟨[Qsq, I 0, I 3], ⟨Qas (n := 2) (m := 4) (j := 0) (i := 0) (xs := [[I 0, I 0, I 0, I 0]]) (by kernel_rfl) (by kernel_rfl) ti32 (by decide) rfl (nle rfl) rfl, rot (by kernel_rfl), rot (by kernel_rfl), trivial⟩, rfl⟩ (NLt.tup _ (nlc (NLt.agg _ (nlc nll (nlc nll (nlc nll (nlc nll nl0))))) (nlc nll (nlc nll nl0))))
   ·replace h := Qaw hb5 h
    refine wx tbk [(3, rp [(.tmp 17, (B ((decide (x2.Mass > 1000000)))))] (B false))] ⟨asb hb5 (amv rfl), trivial⟩ ?_
    rcases bft ((decide (x2.Gas > 1000000000))) with hc6 | hc6
    ·replace h := Qav hc6 h
     refine wft hc6 (by kernel_rfl) ?_
     refine wx tbk [(0, rp [] Qsq)] ⟨Qan (vs := []) rfl ts32 tz32 rfl (by rfl) rfl, trivial⟩ ?_
     refine Qaa ?_
     refine Qao ?_
     obtain rfl := osi h
     exact fend ⟨[Qsq, I 0, I 3], ⟨Qas (n := 2) (m := 4) (j := 0) (i := 0) (xs := [[I 0, I 0, I 0, I 0]]) (by kernel_rfl) (by kernel_rfl) ti32 (by decide) rfl (nle rfl) rfl, rot (by kernel_rfl), rot (by kernel_rfl), trivial⟩, rfl⟩ (NLt.tup _ (nlc (NLt.agg _ (nlc nll (nlc nll (nlc nll (nlc nll nl0))))) (nlc nll (nlc nll nl0))))
    ·replace h := Qaw hc6 h
     refine wfn hc6 (by kernel_rfl) ?_
     refine Qak ?_
     refine thn ?_
     exact ⟨(), h, (mto (n := 33) [(2, I p2), (6, .ref 2 4 0 0), (9, .ref 3 4 0 0)] [2, 3] [Q9t, (Q9s x2)] hφ0 (pc rwl (pc (.rn (rqr rfl)) (pc (.rn (rqr rfl)) pn))) (qc (spb (lc rwl (lc rwl (lc rwl (lc rwl ln))))) (qc (spb (lc rwl (lc rwl (lc rwl (lc rwl ln))))) qn)))⟩
def Qkr (_N : Nat) (p0 : GStream) (p1 : Int) : Option (GStream × Int) :=
  (some (if (w64 (p0.Heat - (w64 (p1 * p0.Mass)))) > 0 then w64 (p0.Heat - (w64 (p1 * p0.Mass))) else 0)).bind fun x1 =>
  some ((⟨p0.Mass, w64 (p0.Heat - x1), p0.Silica, p0.Gas⟩ : GStream), x1)
theorem Qrg (N : Nat) (p0 : GStream) (p1 : Int) (r : (GStream × Int)) (h : Qkr N p0 p1 = some r) : Spec Tryz.prog 46 [(.agg (Qaq p0)), (I p1)] [] (.tup [(.agg (Qaq r.1)), (I r.2)]) [] := by
  refine Qab Tryz.func46 rfl 0 (nle rfl) (fun X φ0 w0 hφ0 hd0 => ?_)
  unfold Qkr at h
  refine wx tbk [] trivial ?_
  obtain ⟨x1, hl2, h⟩ := bno h
  refine wx tbk [(7, rp [ci 0, (.tmp 13, (I (w64 (p0.Heat - (w64 (p1 * p0.Mass))))))] (I x1))] ⟨Qdu hl2 (Qji rfl), trivial⟩ ?_
  refine wx tbk [] trivial ?_
  refine wx tbk [] trivial ?_
  refine Qaa ?_
  obtain rfl := osi h
  exact fend ⟨[(.agg [I p0.Mass, (I (w64 (p0.Heat - x1))), I p0.Silica, I p0.Gas]), I x1], ⟨Qas (n := 1) (m := 4) (j := 0) (i := 0) (xs := [[I p0.Mass, (I (w64 (p0.Heat - x1))), I p0.Silica, I p0.Gas]]) (by kernel_rfl) (by kernel_rfl) ti32 (by decide) rfl (nle rfl) rfl, rot (by kernel_rfl), trivial⟩, rfl⟩ (NLt.tup _ (nlc (NLt.agg _ (nlc nll (nlc nll (nlc nll (nlc nll nl0))))) (nlc nll nl0)))
def Qne (_N : Nat) (p0 : GCycle) (p1 : GStream) : Option (GStream × Int × Int) :=
  (some (if (w64 (p1.Heat - (w64 (p0.Out * p1.Mass)))) > 0 then w64 (p1.Heat - (w64 (p0.Out * p1.Mass))) else 0)).bind fun x1 =>
  (some (if x1 < p0.Most then x1 else p0.Most)).bind fun x3 =>
  (some (w64 ((w64 (x3 * p0.Yield)).tdiv 1000))).bind fun x5 =>
  some ((⟨p1.Mass, w64 (p1.Heat - x3), p1.Silica, p1.Gas⟩ : GStream), x5, w64 (x3 - x5))
theorem Que (N : Nat) (p0 : GCycle) (p1 : GStream) (r : (GStream × Int × Int)) (h : Qne N p0 p1 = some r) : Spec Tryz.prog 47 [(.agg (Qkw p0)), (.agg (Qaq p1))] [] (.tup [(.agg (Qaq r.1)), (I r.2.1), (I r.2.2)]) [] := by
  refine Qab Tryz.func47 rfl 0 (nle rfl) (fun X φ0 w0 hφ0 hd0 => ?_)
  unfold Qne at h
  refine wx tbk [] trivial ?_
  obtain ⟨x1, hl2, h⟩ := bno h
  obtain ⟨x3, hl4, h⟩ := bno h
  refine wx tbk [(10, rp [ci 0, (.tmp 18, (I (w64 (p1.Heat - (w64 (p0.Out * p1.Mass))))))] (I x1)), (11, rp [(.tmp 10, I p0.Most), (.tmp 19, I x1)] (I ((if x1 < p0.Most then x1 else p0.Most)))), (12, rp [(.tmp 20, (I ((if x1 < p0.Most then x1 else p0.Most))))] (I x3))] ⟨Qdu hl2 (Qji rfl), Qkj rfl, Qdu hl4 (aas rfl), trivial⟩ ?_
  obtain ⟨x5, hl6, h⟩ := bno h
  refine wx tbk [(4, rp [(.tmp 24, (I (w64 (x3 * p0.Yield)))), ci 1000] (I (w64 ((w64 (x3 * p0.Yield)).tdiv 1000)))), (5, rp [(.tmp 25, (I (w64 ((w64 (x3 * p0.Yield)).tdiv 1000))))] (I x5))] ⟨Qph rfl (by decide), Qdu hl6 (aas rfl), trivial⟩ ?_
  refine wx tbk [] trivial ?_
  refine wx tbk [] trivial ?_
  refine Qaa ?_
  obtain rfl := osi h
  exact fend ⟨[(.agg [I p1.Mass, (I (w64 (p1.Heat - x3))), I p1.Silica, I p1.Gas]), I x5, (I (w64 (x3 - x5)))], ⟨Qas (n := 2) (m := 4) (j := 0) (i := 0) (xs := [[I p1.Mass, (I (w64 (p1.Heat - x3))), I p1.Silica, I p1.Gas]]) (by kernel_rfl) (by kernel_rfl) ti32 (by decide) rfl (nle rfl) rfl, rot (by kernel_rfl), rot (by kernel_rfl), trivial⟩, rfl⟩ (NLt.tup _ (nlc (NLt.agg _ (nlc nll (nlc nll (nlc nll (nlc nll nl0))))) (nlc nll (nlc nll nl0))))
def Qh5 (N : Nat) (p0 : GLine) (p1 : GStream) (p2 : GStream) : Option (GAccount × Int) :=
  (getI p0.Table p0.Level).bind fun x1 =>
  (Qjb N x1 p1).bind fun x6 =>
  (Qh7 N (⟨p0.Unit.Inlet, p0.Unit.Parts⟩ : GUnit) (⟨x6.Steam.Mass, x6.Steam.Heat, x6.Steam.Silica, x6.Steam.Gas⟩ : GStream)).bind fun x8 =>
  bif (x8.2.2 != 0) then
   some ((⟨0, 0, 0, 0, 0, 0, (⟨0, 0, 0, 0⟩ : GStream), (⟨0, 0, 0, 0⟩ : GStream)⟩ : GAccount), x8.2.2)
  else
   (Qgt N (⟨x8.1.Mass, x8.1.Heat, x8.1.Silica, x8.1.Gas⟩ : GStream) p2 p0.Most).bind fun x11 =>
   bif (x11.2.2 != 0) then
    some ((⟨0, 0, 0, 0, 0, 0, (⟨0, 0, 0, 0⟩ : GStream), (⟨0, 0, 0, 0⟩ : GStream)⟩ : GAccount), x11.2.2)
   else
    (Qkr N (⟨x11.1.Mass, x11.1.Heat, x11.1.Silica, x11.1.Gas⟩ : GStream) p0.Target).bind fun x14 =>
    (Qne N (⟨p0.Cycle.Out, p0.Cycle.Yield, p0.Cycle.Most⟩ : GCycle) (⟨x6.Water.Mass, x6.Water.Heat, x6.Water.Silica, x6.Water.Gas⟩ : GStream)).bind fun x16 =>
    some ((⟨x8.2.1, x11.2.1, x14.2, x16.2.1, x16.2.2, x6.Scale, (⟨x14.1.Mass, x14.1.Heat, x14.1.Silica, x14.1.Gas⟩ : GStream), (⟨x16.1.Mass, x16.1.Heat, x16.1.Silica, x16.1.Gas⟩ : GStream)⟩ : GAccount), 0)
def Zgd (p0 : GLine) : AV := .dat 5 ((p0.Table : List GRow).map Qa6)
def Q9w (x1 : GRow) : AV := .agg [(I (x1.T)), (I (x1.P)), (I (x1.Liquid)), (I (x1.Vapour)), (I (x1.Silica))]
def Q9y (p1 : GStream) : AV := .agg [(I (p1.Mass)), (I (p1.Heat)), (I (p1.Silica)), (I (p1.Gas))]
def Q9z (p0 : GLine) : AV := .dat 2 ((p0.Unit.Parts : List GPart).map Qa4)
def Q37 (x6 : GParts) : AV := .agg [(I (x6.Steam.Mass)), (I (x6.Steam.Heat)), (I (x6.Steam.Silica)), (I (x6.Steam.Gas))]
def Qya (x8 : (GStream × Int × Int)) : AV := .agg [(I (x8.1.Mass)), (I (x8.1.Heat)), (I (x8.1.Silica)), (I (x8.1.Gas))]
def Qt1 : AV := .agg [(I (0)), (I (0)), (I (0)), (I (0)), (I (0)), (I (0)), (I (0)), (I (0)), (I (0)), (I (0)), (I (0)), (I (0)), (I (0)), (I (0))]
def Q9x (p2 : GStream) : AV := .agg [(I (p2.Mass)), (I (p2.Heat)), (I (p2.Silica)), (I (p2.Gas))]
def Qx9 (x11 : (GStream × Int × Int)) : AV := .agg [(I (x11.1.Mass)), (I (x11.1.Heat)), (I (x11.1.Silica)), (I (x11.1.Gas))]
def Q36 (p0 : GLine) : AV := .agg [(I (p0.Cycle.Out)), (I (p0.Cycle.Yield)), (I (p0.Cycle.Most))]
def Q35 (x6 : GParts) : AV := .agg [(I (x6.Water.Mass)), (I (x6.Water.Heat)), (I (x6.Water.Silica)), (I (x6.Water.Gas))]
theorem Qqn (N : Nat) (p0 : GLine) (p1 : GStream) (p2 : GStream) (r : (GAccount × Int)) (h : Qh5 N p0 p1 p2 = some r) : Spec Tryz.prog 13 [(.agg (Qm4 p0)), (.agg (Qaq p1)), (.agg (Qaq p2))] [] (.tup [(.agg (Qp6 r.1)), (I r.2)]) [] := by
  refine Qab Tryz.func13 rfl 0 (nle rfl) (fun X φ0 w0 hφ0 hd0 => ?_)
  unfold Qh5 at h
  refine wx tbk [] trivial ?_
  obtain ⟨x1, hg2, h⟩ := bno h
  obtain ⟨hi3, hj4⟩ := gsm hg2
  obtain ⟨x6, hf5, h⟩ := bno h
  refine wxd tbk [(4, rp [(.tmp 16, (Zgd p0)), (.tmp 18, I p0.Level)] (.dptr (Qa6 (x1)) 0)), (7, rp [fu 43, (.tmp 20, (Q9w x1)), (.tmp 21, (Q9y p1))] (.agg [I x6.Steam.Mass, I x6.Steam.Heat, I x6.Steam.Silica, I x6.Steam.Gas, I x6.Water.Mass, I x6.Water.Heat, I x6.Water.Silica, I x6.Water.Gas, I x6.Rest, I x6.Scale]))] ⟨aid rfl Tryz.underlying23 Ql5 rfl rfl hi3 (mgt Qa6 hj4) rfl, apc (first := []) (cap := []) (vs := [(Q9w x1), (Q9y p1)]) rfl Zel (Qri N x1 p1 _ hf5) rfl rfl (nlc (NLt.agg _ (nlc nll (nlc nll (nlc nll (nlc nll (nlc nll nl0)))))) (nlc (NLt.agg _ (nlc nll (nlc nll (nlc nll (nlc nll nl0))))) nl0)) (NLt.agg _ (nlc nll (nlc nll (nlc nll (nlc nll (nlc nll (nlc nll (nlc nll (nlc nll (nlc nll (nlc nll nl0))))))))))) rfl, trivial⟩ ?_
  obtain ⟨x8, hf7, h⟩ := bno h
  refine wx tbk [(4, rp [fu 44, (.tmp 25, (.agg [I p0.Unit.Inlet, (Q9z p0)])), (.tmp 27, (Q37 x6))] (.tup [(Qya x8), I x8.2.1, I x8.2.2]))] ⟨apc (first := []) (cap := []) (vs := [(.agg [I p0.Unit.Inlet, (Q9z p0)]), (Q37 x6)]) rfl Zek (Qqo N (⟨p0.Unit.Inlet, p0.Unit.Parts⟩ : GUnit) (⟨x6.Steam.Mass, x6.Steam.Heat, x6.Steam.Silica, x6.Steam.Gas⟩ : GStream) _ hf7) rfl rfl (nlc (NLt.agg _ (nlc nll (nlc (nld Qap _) nl0))) (nlc (NLt.agg _ (nlc nll (nlc nll (nlc nll (nlc nll nl0))))) nl0)) (NLt.tup _ (nlc (NLt.agg _ (nlc nll (nlc nll (nlc nll (nlc nll nl0))))) (nlc nll (nlc nll nl0)))) rfl, trivial⟩ ?_
  refine wsq ?_
  refine wx tbk [] trivial ?_
  rcases bft ((x8.2.2 != 0)) with hc9 | hc9
  ·replace h := Qav hc9 h
   refine wft hc9 (by kernel_rfl) ?_
   refine wx tbk [(0, rp [] Qt1)] ⟨Qan (vs := []) rfl ts54 tz54 rfl (by rfl) rfl, trivial⟩ ?_
   refine Qaa ?_
   refine Qao ?_
   obtain rfl := osi h
   exact fend ⟨[Qt1, I x8.2.2], ⟨Qas (n := 3) (m := 14) (j := 0) (i := 0) (xs := [[I 0, I 0, I 0, I 0, I 0, I 0, I 0, I 0, I 0, I 0, I 0, I 0, I 0, I 0]]) (by kernel_rfl) (by kernel_rfl) ti54 (by decide) rfl (nle rfl) rfl, rot (by kernel_rfl), trivial⟩, rfl⟩ (NLt.tup _ (nlc (NLt.agg _ (nlc nll (nlc nll (nlc nll (nlc nll (nlc nll (nlc nll (nlc nll (nlc nll (nlc nll (nlc nll (nlc nll (nlc nll (nlc nll (nlc nll nl0))))))))))))))) (nlc nll nl0)))
  ·replace h := Qaw hc9 h
   refine wfn hc9 (by kernel_rfl) ?_
   refine Qak ?_
   refine thn ?_
   obtain ⟨x11, hf10, h⟩ := bno h
   refine wx tbk [(4, rp [fu 45, (.tmp 37, (Qya x8)), (.tmp 38, (Q9x p2)), (.tmp 40, I p0.Most)] (.tup [(Qx9 x11), I x11.2.1, I x11.2.2]))] ⟨apc (first := []) (cap := []) (vs := [(Qya x8), (Q9x p2), I p0.Most]) rfl Zej (Qo3 N (⟨x8.1.Mass, x8.1.Heat, x8.1.Silica, x8.1.Gas⟩ : GStream) p2 p0.Most _ hf10) rfl rfl (nlc (NLt.agg _ (nlc nll (nlc nll (nlc nll (nlc nll nl0))))) (nlc (NLt.agg _ (nlc nll (nlc nll (nlc nll (nlc nll nl0))))) (nlc nll nl0))) (NLt.tup _ (nlc (NLt.agg _ (nlc nll (nlc nll (nlc nll (nlc nll nl0))))) (nlc nll (nlc nll nl0)))) rfl, trivial⟩ ?_
   refine wsq ?_
   refine wx tbk [] trivial ?_
   rcases bft ((x11.2.2 != 0)) with hc12 | hc12
   ·replace h := Qav hc12 h
    refine wft hc12 (by kernel_rfl) ?_
    refine wx tbk [(0, rp [] Qt1)] ⟨Qan (vs := []) rfl ts54 tz54 rfl (by rfl) rfl, trivial⟩ ?_
    refine Qaa ?_
    refine Qao ?_
    obtain rfl := osi h
    exact fend ⟨[Qt1, I x11.2.2], ⟨Qas (n := 3) (m := 14) (j := 0) (i := 0) (xs := [[I 0, I 0, I 0, I 0, I 0, I 0, I 0, I 0, I 0, I 0, I 0, I 0, I 0, I 0]]) (by kernel_rfl) (by kernel_rfl) ti54 (by decide) rfl (nle rfl) rfl, rot (by kernel_rfl), trivial⟩, rfl⟩ (NLt.tup _ (nlc (NLt.agg _ (nlc nll (nlc nll (nlc nll (nlc nll (nlc nll (nlc nll (nlc nll (nlc nll (nlc nll (nlc nll (nlc nll (nlc nll (nlc nll (nlc nll nl0))))))))))))))) (nlc nll nl0)))
   ·replace h := Qaw hc12 h
    refine wfn hc12 (by kernel_rfl) ?_
    refine Qak ?_
    refine thn ?_
    refine wx tbk [(4, rp [(.tmp 49, I x8.2.1), (.tmp 50, I x11.2.1), (.tmp 52, I x6.Scale)] (.agg [I x8.2.1, I x11.2.1, I 0, I 0, I 0, I x6.Scale, I 0, I 0, I 0, I 0, I 0, I 0, I 0, I 0]))] ⟨Qan (vs := [I x8.2.1, I x11.2.1, I x6.Scale]) rfl ts54 tz54 rfl (by rfl) rfl, trivial⟩ ?_
    obtain ⟨x14, hf13, h⟩ := bno h
    refine wx tbk [(3, rp [fu 46, (.tmp 55, (Qx9 x11)), (.tmp 57, I p0.Target)] (.tup [(.agg [I x14.1.Mass, I x14.1.Heat, I x14.1.Silica, I x14.1.Gas]), I x14.2]))] ⟨apc (first := []) (cap := []) (vs := [(Qx9 x11), I p0.Target]) rfl Zei (Qrg N (⟨x11.1.Mass, x11.1.Heat, x11.1.Silica, x11.1.Gas⟩ : GStream) p0.Target _ hf13) rfl rfl (nlc (NLt.agg _ (nlc nll (nlc nll (nlc nll (nlc nll nl0))))) (nlc nll nl0)) (NLt.tup _ (nlc (NLt.agg _ (nlc nll (nlc nll (nlc nll (nlc nll nl0))))) (nlc nll nl0))) rfl, trivial⟩ ?_
    obtain ⟨x16, hf15, h⟩ := bno h
    refine wx tbk [(4, rp [fu 47, (.tmp 65, (Q36 p0)), (.tmp 67, (Q35 x6))] (.tup [(.agg [I x16.1.Mass, I x16.1.Heat, I x16.1.Silica, I x16.1.Gas]), I x16.2.1, I x16.2.2]))] ⟨apc (first := []) (cap := []) (vs := [(Q36 p0), (Q35 x6)]) rfl Zeh (Que N (⟨p0.Cycle.Out, p0.Cycle.Yield, p0.Cycle.Most⟩ : GCycle) (⟨x6.Water.Mass, x6.Water.Heat, x6.Water.Silica, x6.Water.Gas⟩ : GStream) _ hf15) rfl rfl (nlc (NLt.agg _ (nlc nll (nlc nll (nlc nll nl0)))) (nlc (NLt.agg _ (nlc nll (nlc nll (nlc nll (nlc nll nl0))))) nl0)) (NLt.tup _ (nlc (NLt.agg _ (nlc nll (nlc nll (nlc nll (nlc nll nl0))))) (nlc nll (nlc nll nl0)))) rfl, trivial⟩ ?_
    refine wx tbk [] trivial ?_
    refine Qaa ?_
    obtain rfl := osi h
    exact fend ⟨[(.agg [I x8.2.1, I x11.2.1, I x14.2, I x16.2.1, I x16.2.2, I x6.Scale, I x14.1.Mass, I x14.1.Heat, I x14.1.Silica, I x14.1.Gas, I x16.1.Mass, I x16.1.Heat, I x16.1.Silica, I x16.1.Gas]), I 0], ⟨Qas (n := 3) (m := 14) (j := 0) (i := 0) (xs := [[I x8.2.1, I x11.2.1, I x14.2, I x16.2.1, I x16.2.2, I x6.Scale, I x14.1.Mass, I x14.1.Heat, I x14.1.Silica, I x14.1.Gas, I x16.1.Mass, I x16.1.Heat, I x16.1.Silica, I x16.1.Gas]]) (by kernel_rfl) (by kernel_rfl) ti54 (by decide) rfl (nle rfl) rfl, rot (by kernel_rfl), trivial⟩, rfl⟩ (NLt.tup _ (nlc (NLt.agg _ (nlc nll (nlc nll (nlc nll (nlc nll (nlc nll (nlc nll (nlc nll (nlc nll (nlc nll (nlc nll (nlc nll (nlc nll (nlc nll (nlc nll nl0))))))))))))))) (nlc nll nl0)))
def Qiz (N : Nat) (p0 : GAccount) : Option GAccount :=
  (Qfn N (⟨p0.Hot.Mass, p0.Hot.Heat, p0.Hot.Silica, p0.Hot.Gas⟩ : GStream)).bind fun x2 =>
  (Qfn N (⟨p0.Brine.Mass, p0.Brine.Heat, p0.Brine.Silica, p0.Brine.Gas⟩ : GStream)).bind fun x4 =>
  some (⟨p0.Turbine, p0.Vent, p0.Air, p0.Work, p0.Sink, p0.Scale, x2, x4⟩ : GAccount)
def Q9r (p0 : GAccount) : AV := .agg [(I (p0.Hot.Mass)), (I (p0.Hot.Heat)), (I (p0.Hot.Silica)), (I (p0.Hot.Gas))]
def Q31 (x2 : GStream) : AV := .agg [(I (x2.Mass)), (I (x2.Heat)), (I (x2.Silica)), (I (x2.Gas))]
def Q9q (p0 : GAccount) : AV := .agg [(I (p0.Brine.Mass)), (I (p0.Brine.Heat)), (I (p0.Brine.Silica)), (I (p0.Brine.Gas))]
def Q30 (x4 : GStream) : AV := .agg [(I (x4.Mass)), (I (x4.Heat)), (I (x4.Silica)), (I (x4.Gas))]
def Q9p (p0 : GAccount) (x2 : GStream) (x4 : GStream) : AV := .agg [(I (p0.Turbine)), (I (p0.Vent)), (I (p0.Air)), (I (p0.Work)), (I (p0.Sink)), (I (p0.Scale)), (I (x2.Mass)), (I (x2.Heat)), (I (x2.Silica)), (I (x2.Gas)), (I (x4.Mass)), (I (x4.Heat)), (I (x4.Silica)), (I (x4.Gas))]
theorem Qlf (N : Nat) (p0 : GAccount) (r : GAccount) (h : Qiz N p0 = some r) : Spec Tryz.prog 14 [(.agg (Qp6 p0))] [] (.agg (Qp6 r)) [] := by
  refine Qab Tryz.func14 rfl 0 (nle rfl) (fun X φ0 w0 hφ0 hd0 => ?_)
  unfold Qiz at h
  refine wx tbk [] trivial ?_
  obtain ⟨x2, hf1, h⟩ := bno h
  obtain ⟨x4, hf3, h⟩ := bno h
  refine wxd tbk [(14, rp [fu 10, (.tmp 16, (Q9r p0))] (Q31 x2)), (17, rp [fu 10, (.tmp 19, (Q9q p0))] (Q30 x4)), (18, rp [(.tmp 4, I p0.Turbine), (.tmp 6, I p0.Vent), (.tmp 8, I p0.Air), (.tmp 10, I p0.Work), (.tmp 12, I p0.Sink), (.tmp 14, I p0.Scale), (.tmp 17, (Q31 x2)), (.tmp 20, (Q30 x4))] (Q9p p0 x2 x4))] ⟨apc (first := []) (cap := []) (vs := [(Q9r p0)]) rfl Qur (Qhi N (⟨p0.Hot.Mass, p0.Hot.Heat, p0.Hot.Silica, p0.Hot.Gas⟩ : GStream) _ hf1) rfl rfl (nlc (NLt.agg _ (nlc nll (nlc nll (nlc nll (nlc nll nl0))))) nl0) (NLt.agg _ (nlc nll (nlc nll (nlc nll (nlc nll nl0))))) rfl, apc (first := []) (cap := []) (vs := [(Q9q p0)]) rfl Qur (Qhi N (⟨p0.Brine.Mass, p0.Brine.Heat, p0.Brine.Silica, p0.Brine.Gas⟩ : GStream) _ hf3) rfl rfl (nlc (NLt.agg _ (nlc nll (nlc nll (nlc nll (nlc nll nl0))))) nl0) (NLt.agg _ (nlc nll (nlc nll (nlc nll (nlc nll nl0))))) rfl, Qan (vs := [I p0.Turbine, I p0.Vent, I p0.Air, I p0.Work, I p0.Sink, I p0.Scale, (Q31 x2), (Q30 x4)]) rfl ts37 tz37 rfl (by rfl) rfl, trivial⟩ ?_
  refine Qaa ?_
  obtain rfl := osi h
  exact fend ⟨[(Q9p p0 x2 x4)], ⟨Qas (n := 1) (m := 14) (j := 0) (i := 0) (xs := [[I p0.Turbine, I p0.Vent, I p0.Air, I p0.Work, I p0.Sink, I p0.Scale, I x2.Mass, I x2.Heat, I x2.Silica, I x2.Gas, I x4.Mass, I x4.Heat, I x4.Silica, I x4.Gas]]) (by kernel_rfl) (by kernel_rfl) ti37 (by decide) rfl (nle rfl) rfl, trivial⟩, rfl⟩ (NLt.agg _ (nlc nll (nlc nll (nlc nll (nlc nll (nlc nll (nlc nll (nlc nll (nlc nll (nlc nll (nlc nll (nlc nll (nlc nll (nlc nll (nlc nll nl0)))))))))))))))
end Go.Proofs.YtlhakkkjgdbdpaaGreat
