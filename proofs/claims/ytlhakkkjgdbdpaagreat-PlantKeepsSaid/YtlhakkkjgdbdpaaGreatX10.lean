/-
  Functions of the program: what they compute, as plain functions, and that they do. No conditions.
-/
import Derived.Test.YtlhakkkjgdbdpaaGreatX7
namespace Go.Proofs.YtlhakkkjgdbdpaaGreat
set_option maxRecDepth 100000
set_option maxHeartbeats 4000000
open Go.RowKit
def Qg1 (N : Nat) (p0 : GLine) (p1 : GStream) (p2 : GStream) : Option Bool :=
  Qc5 (fun _ =>
    (Qj5 N (⟨p0.Table, p0.Level, (⟨p0.Unit.Inlet, p0.Unit.Parts⟩ : GUnit), p0.Most, p0.Target, (⟨p0.Cycle.Out, p0.Cycle.Yield, p0.Cycle.Most⟩ : GCycle)⟩ : GLine)).bind fun x3 =>
    (Qib N p1).bind fun x5 =>
    (Qib N p2).bind fun x7 =>
    (Qh7 N (⟨x3.Table, x3.Level, (⟨x3.Unit.Inlet, x3.Unit.Parts⟩ : GUnit), x3.Most, x3.Target, (⟨x3.Cycle.Out, x3.Cycle.Yield, x3.Cycle.Most⟩ : GCycle)⟩ : GLine) x5 x7).bind fun x9 =>
    bif (x9.2 != 0) then
     bif (x9.2 == 2) then
      bif (([x9.1.Turbine, x9.1.Vent, x9.1.Air, x9.1.Work, x9.1.Sink, x9.1.Scale, x9.1.Hot.Mass, x9.1.Hot.Heat, x9.1.Hot.Silica, x9.1.Hot.Gas, x9.1.Brine.Mass, x9.1.Brine.Heat, x9.1.Brine.Silica, x9.1.Brine.Gas] : List Int) == [0, 0, 0, 0, 0, 0, 0, 0, 0, 0, 0, 0, 0, 0]) then
       (Qeq 2000 ).bind fun x14 =>
       some x14
      else
       some false
     else
      bif (x9.2 == 9) then
       bif (([x9.1.Turbine, x9.1.Vent, x9.1.Air, x9.1.Work, x9.1.Sink, x9.1.Scale, x9.1.Hot.Mass, x9.1.Hot.Heat, x9.1.Hot.Silica, x9.1.Hot.Gas, x9.1.Brine.Mass, x9.1.Brine.Heat, x9.1.Brine.Silica, x9.1.Brine.Gas] : List Int) == [0, 0, 0, 0, 0, 0, 0, 0, 0, 0, 0, 0, 0, 0]) then
        (Qeq 2000 ).bind fun x18 =>
        some x18
       else
        some false
      else
       bif (x9.2 == 3) then
        bif (([x9.1.Turbine, x9.1.Vent, x9.1.Air, x9.1.Work, x9.1.Sink, x9.1.Scale, x9.1.Hot.Mass, x9.1.Hot.Heat, x9.1.Hot.Silica, x9.1.Hot.Gas, x9.1.Brine.Mass, x9.1.Brine.Heat, x9.1.Brine.Silica, x9.1.Brine.Gas] : List Int) == [0, 0, 0, 0, 0, 0, 0, 0, 0, 0, 0, 0, 0, 0]) then
         (Qeq 2000 ).bind fun x22 =>
         some x22
        else
         some false
       else
        bif (x9.2 == 11) then
         bif (([x9.1.Turbine, x9.1.Vent, x9.1.Air, x9.1.Work, x9.1.Sink, x9.1.Scale, x9.1.Hot.Mass, x9.1.Hot.Heat, x9.1.Hot.Silica, x9.1.Hot.Gas, x9.1.Brine.Mass, x9.1.Brine.Heat, x9.1.Brine.Silica, x9.1.Brine.Gas] : List Int) == [0, 0, 0, 0, 0, 0, 0, 0, 0, 0, 0, 0, 0, 0]) then
          (Qeq 2000 ).bind fun x26 =>
          some x26
         else
          some false
        else
         some false
    else
     (some (w64 ((w64 ((w64 (x9.1.Turbine + x9.1.Air)) + x9.1.Work)) + x9.1.Sink))).bind fun x27 =>
     (some (w64 ((w64 (x27 + x9.1.Hot.Heat)) + x9.1.Brine.Heat))).bind fun x29 =>
     Qc5 (fun y31 =>
       bif y31 then
        bif (x29 == (w64 (p1.Heat + p2.Heat))) then
         bif ((w64 (x9.1.Hot.Mass + x9.1.Brine.Mass)) == (w64 (p1.Mass + p2.Mass))) then
          (some (w64 ((w64 (x9.1.Hot.Silica + x9.1.Brine.Silica)) + x9.1.Scale))).bind fun x36 =>
          bif (x36 == (w64 (p1.Silica + p2.Silica))) then
           bif ((w64 (x9.1.Vent + x9.1.Brine.Gas)) == (w64 (p1.Gas + p2.Gas))) then
            (Qea N (⟨x9.1.Hot.Mass, x9.1.Hot.Heat, x9.1.Hot.Silica, x9.1.Hot.Gas⟩ : GStream)).bind fun x41 =>
            bif (x41 == 0) then
             (Qea N (⟨x9.1.Brine.Mass, x9.1.Brine.Heat, x9.1.Brine.Silica, x9.1.Brine.Gas⟩ : GStream)).bind fun x44 =>
             bif (x44 == 0) then
              (Qeq 2000 ).bind fun x47 =>
              some x47
             else
              some false
            else
             some false
           else
            some false
          else
           some false
         else
          some false
        else
         some false
       else
        some false) fun k32 : Bool → Option Bool =>
     bif (decide (x9.1.Turbine ≥ 0)) then
      bif (decide (x9.1.Air ≥ 0)) then
       bif (decide (x9.1.Work ≥ 0)) then
        bif (decide (x9.1.Sink ≥ 0)) then
         bif (decide (x9.1.Vent ≥ 0)) then
          bif (decide (x9.1.Vent ≤ p0.Most)) then
           bif (decide (x9.1.Scale ≥ 0)) then
            k32 ((x9.1.Hot.Gas == 0))
           else
            k32 (false)
          else
           k32 (false)
         else
          k32 (false)
        else
         k32 (false)
       else
        k32 (false)
      else
       k32 (false)
     else
      k32 (false)) fun k1 : Unit → Option Bool =>
  (Qgd N (⟨p0.Table, p0.Level, (⟨p0.Unit.Inlet, p0.Unit.Parts⟩ : GUnit), p0.Most, p0.Target, (⟨p0.Cycle.Out, p0.Cycle.Yield, p0.Cycle.Most⟩ : GCycle)⟩ : GLine)).bind fun x56 =>
  bif (!x56) then
   (Qeq 2000 ).bind fun x59 =>
   some x59
  else
   (Qev N p1).bind fun x61 =>
   bif (!x61) then
    (Qeq 2000 ).bind fun x64 =>
    some x64
   else
    (Qev N p2).bind fun x66 =>
    bif (!x66) then
     (Qeq 2000 ).bind fun x69 =>
     some x69
    else
     k1 ()
def Q76 (p0 : GLine) : Slot := .own 9 [[(.dat 5 ((p0.Table : List GRow).map Qa6)), (I (p0.Level)), (I (p0.Unit.Inlet)), (.dat 2 ((p0.Unit.Parts : List GPart).map Qba)), (I (p0.Most)), (I (p0.Target)), (I (p0.Cycle.Out)), (I (p0.Cycle.Yield)), (I (p0.Cycle.Most))]]
def Qlz (p1 : GStream) : Slot := .own 4 [[(I (p1.Mass)), (I (p1.Heat)), (I (p1.Silica)), (I (p1.Gas))]]
def Qly (p2 : GStream) : Slot := .own 4 [[(I (p2.Mass)), (I (p2.Heat)), (I (p2.Silica)), (I (p2.Gas))]]
def Qpn (p0 : GLine) : AV := .agg [(.dat 5 ((p0.Table : List GRow).map Qa6)), (I (p0.Level)), (I (p0.Unit.Inlet)), (.dat 2 ((p0.Unit.Parts : List GPart).map Qba)), (I (p0.Most)), (I (p0.Target)), (I (p0.Cycle.Out)), (I (p0.Cycle.Yield)), (I (p0.Cycle.Most))]
def Qxa (x3 : GLine) : AV := .agg [(.dat 5 ((x3.Table : List GRow).map Qa6)), (I (x3.Level)), (I (x3.Unit.Inlet)), (.dat 2 ((x3.Unit.Parts : List GPart).map Qba)), (I (x3.Most)), (I (x3.Target)), (I (x3.Cycle.Out)), (I (x3.Cycle.Yield)), (I (x3.Cycle.Most))]
def Qry (p1 : GStream) : AV := .agg [(I (p1.Mass)), (I (p1.Heat)), (I (p1.Silica)), (I (p1.Gas))]
def Qw9 (x5 : GStream) : AV := .agg [(I (x5.Mass)), (I (x5.Heat)), (I (x5.Silica)), (I (x5.Gas))]
def Qym (p2 : GStream) : AV := .agg [(I (p2.Mass)), (I (p2.Heat)), (I (p2.Silica)), (I (p2.Gas))]
def Qw8 (x7 : GStream) : AV := .agg [(I (x7.Mass)), (I (x7.Heat)), (I (x7.Silica)), (I (x7.Gas))]
def Qk0 (x9 : (GAccount × Int)) : AV := .agg [(I (x9.1.Turbine)), (I (x9.1.Vent)), (I (x9.1.Air)), (I (x9.1.Work)), (I (x9.1.Sink)), (I (x9.1.Scale)), (I (x9.1.Hot.Mass)), (I (x9.1.Hot.Heat)), (I (x9.1.Hot.Silica)), (I (x9.1.Hot.Gas)), (I (x9.1.Brine.Mass)), (I (x9.1.Brine.Heat)), (I (x9.1.Brine.Silica)), (I (x9.1.Brine.Gas))]
def Qg5 : AV := .agg [(I (0)), (I (0)), (I (0)), (I (0)), (I (0)), (I (0)), (I (0)), (I (0)), (I (0)), (I (0)), (I (0)), (I (0)), (I (0)), (I (0))]
def Qkz (x9 : (GAccount × Int)) : Slot := .own 14 [[(I (x9.1.Turbine)), (I (x9.1.Vent)), (I (x9.1.Air)), (I (x9.1.Work)), (I (x9.1.Sink)), (I (x9.1.Scale)), (I (x9.1.Hot.Mass)), (I (x9.1.Hot.Heat)), (I (x9.1.Hot.Silica)), (I (x9.1.Hot.Gas)), (I (x9.1.Brine.Mass)), (I (x9.1.Brine.Heat)), (I (x9.1.Brine.Silica)), (I (x9.1.Brine.Gas))]]
def Qo3 (x9 : (GAccount × Int)) : AV := .agg [(I (x9.1.Hot.Mass)), (I (x9.1.Hot.Heat)), (I (x9.1.Hot.Silica)), (I (x9.1.Hot.Gas))]
def Qs7 (x9 : (GAccount × Int)) : AV := .agg [(I (x9.1.Brine.Mass)), (I (x9.1.Brine.Heat)), (I (x9.1.Brine.Silica)), (I (x9.1.Brine.Gas))]
theorem Qni (N : Nat) (p0 : GLine) (p1 : GStream) (p2 : GStream) (r : Bool) (h : Qg1 N p0 p1 p2 = some r) : Spec Tryz.prog 4 [(.agg (Qn3 p0)), (.agg (Qa4 p1)), (.agg (Qa4 p2))] [] (B r) [] := by
  refine Qac Tryz.func4 rfl 0 (nle rfl) (fun X φ0 w0 hφ0 hd0 => ?_)
  unfold Qg1 at h
  refine wx tbk [] trivial ?_
  obtain ⟨k1, hk_k1, h⟩ := jko h
  refine wjn (τ := Unit) (fun t => k1 t = some r) (fun _ => ⟨mk 191 [(3, .ref 0 9 0 0), (4, .ref 1 4 0 0), (5, .ref 2 4 0 0)], [(Q76 p0), (Qlz p1), (Qly p2)]⟩) (fun t h => ?_) ?_
  ·subst hk_k1
   obtain ⟨x3, hf2, h⟩ := bno h
   obtain ⟨x5, hf4, h⟩ := bno h
   obtain ⟨x7, hf6, h⟩ := bno h
   obtain ⟨x9, hf8, h⟩ := bno h
   refine wxd tbk [(1, rp [fu 9, (.tmp 26, (Qpn p0))] (Qxa x3)), (3, rp [fu 10, (.tmp 28, (Qry p1))] (Qw9 x5)), (5, rp [fu 10, (.tmp 30, (Qym p2))] (Qw8 x7)), (6, rp [fu 8, (.tmp 27, (Qxa x3)), (.tmp 29, (Qw9 x5)), (.tmp 31, (Qw8 x7))] (.tup [(Qk0 x9), I x9.2]))] ⟨apc (first := []) (cap := []) (vs := [(Qpn p0)]) rfl Zei (Qru N (⟨p0.Table, p0.Level, (⟨p0.Unit.Inlet, p0.Unit.Parts⟩ : GUnit), p0.Most, p0.Target, (⟨p0.Cycle.Out, p0.Cycle.Yield, p0.Cycle.Most⟩ : GCycle)⟩ : GLine) _ hf2) rfl rfl (nlc (NLt.agg _ (nlc (nld Qa9 _) (nlc nll (nlc nll (nlc (nld Qaq _) (nlc nll (nlc nll (nlc nll (nlc nll (nlc nll nl0)))))))))) nl0) (NLt.agg _ (nlc (nld Qa9 _) (nlc nll (nlc nll (nlc (nld Qaq _) (nlc nll (nlc nll (nlc nll (nlc nll (nlc nll nl0)))))))))) rfl, apc (first := []) (cap := []) (vs := [(Qry p1)]) rfl Q4m (Qlj N p1 _ hf4) rfl rfl (nlc (NLt.agg _ (nlc nll (nlc nll (nlc nll (nlc nll nl0))))) nl0) (NLt.agg _ (nlc nll (nlc nll (nlc nll (nlc nll nl0))))) rfl, apc (first := []) (cap := []) (vs := [(Qym p2)]) rfl Q4m (Qlj N p2 _ hf6) rfl rfl (nlc (NLt.agg _ (nlc nll (nlc nll (nlc nll (nlc nll nl0))))) nl0) (NLt.agg _ (nlc nll (nlc nll (nlc nll (nlc nll nl0))))) rfl, apc (first := []) (cap := []) (vs := [(Qxa x3), (Qw9 x5), (Qw8 x7)]) rfl Zej (Qp3 N (⟨x3.Table, x3.Level, (⟨x3.Unit.Inlet, x3.Unit.Parts⟩ : GUnit), x3.Most, x3.Target, (⟨x3.Cycle.Out, x3.Cycle.Yield, x3.Cycle.Most⟩ : GCycle)⟩ : GLine) x5 x7 _ hf8) rfl rfl (nlc (NLt.agg _ (nlc (nld Qa9 _) (nlc nll (nlc nll (nlc (nld Qaq _) (nlc nll (nlc nll (nlc nll (nlc nll (nlc nll nl0)))))))))) (nlc (NLt.agg _ (nlc nll (nlc nll (nlc nll (nlc nll nl0))))) (nlc (NLt.agg _ (nlc nll (nlc nll (nlc nll (nlc nll nl0))))) nl0))) (NLt.tup _ (nlc (NLt.agg _ (nlc nll (nlc nll (nlc nll (nlc nll (nlc nll (nlc nll (nlc nll (nlc nll (nlc nll (nlc nll (nlc nll (nlc nll (nlc nll (nlc nll nl0))))))))))))))) (nlc nll nl0))) rfl, trivial⟩ ?_
   refine wsq ?_
   refine wx tbk [] trivial ?_
   rcases bft ((x9.2 != 0)) with hc10 | hc10
   ·replace h := Qat hc10 h
    refine wft hc10 (by kernel_rfl) ?_
    rcases bft ((x9.2 == 2)) with hb11 | hb11
    ·replace h := Qat hb11 h
     rcases bft ((([x9.1.Turbine, x9.1.Vent, x9.1.Air, x9.1.Work, x9.1.Sink, x9.1.Scale, x9.1.Hot.Mass, x9.1.Hot.Heat, x9.1.Hot.Silica, x9.1.Hot.Gas, x9.1.Brine.Mass, x9.1.Brine.Heat, x9.1.Brine.Silica, x9.1.Brine.Gas] : List Int) == [0, 0, 0, 0, 0, 0, 0, 0, 0, 0, 0, 0, 0, 0])) with hb12 | hb12
     ·replace h := Qat hb12 h
      obtain ⟨x14, hf13, h⟩ := bno h
      refine wx tbk [(2, rp [(.tmp 38, (B ((x9.2 == 2))))] (B true)), (16, rp [(.tmp 51, B true)] Qg5), (17, rp [(.tmp 51, B true), (.tmp 52, (Qk0 x9)), (.tmp 53, Qg5)] (B ((([x9.1.Turbine, x9.1.Vent, x9.1.Air, x9.1.Work, x9.1.Sink, x9.1.Scale, x9.1.Hot.Mass, x9.1.Hot.Heat, x9.1.Hot.Silica, x9.1.Hot.Gas, x9.1.Brine.Mass, x9.1.Brine.Heat, x9.1.Brine.Silica, x9.1.Brine.Gas] : List Int) == [0, 0, 0, 0, 0, 0, 0, 0, 0, 0, 0, 0, 0, 0])))), (19, rp [(.tmp 55, (B ((([x9.1.Turbine, x9.1.Vent, x9.1.Air, x9.1.Work, x9.1.Sink, x9.1.Scale, x9.1.Hot.Mass, x9.1.Hot.Heat, x9.1.Hot.Silica, x9.1.Hot.Gas, x9.1.Brine.Mass, x9.1.Brine.Heat, x9.1.Brine.Silica, x9.1.Brine.Gas] : List Int) == [0, 0, 0, 0, 0, 0, 0, 0, 0, 0, 0, 0, 0, 0]))))] (B true)), (20, rp [(.tmp 56, B true), fu 7] (B x14))] ⟨asb hb11 (amv rfl), ag_ (Qao (vs := []) rfl ts37 tz37 rfl (by rfl) rfl), ag_ (Qer (ls := [x9.1.Turbine, x9.1.Vent, x9.1.Air, x9.1.Work, x9.1.Sink, x9.1.Scale, x9.1.Hot.Mass, x9.1.Hot.Heat, x9.1.Hot.Silica, x9.1.Hot.Gas, x9.1.Brine.Mass, x9.1.Brine.Heat, x9.1.Brine.Silica, x9.1.Brine.Gas]) (ks := [0, 0, 0, 0, 0, 0, 0, 0, 0, 0, 0, 0, 0, 0]) rfl rfl Qvq (by kernel_rfl) rfl rfl), asb hb12 (amv rfl), ag_ (apc (first := []) (cap := []) (vs := []) rfl Qpt (Qep 2000  _ hf13) rfl rfl nl0 nll rfl), trivial⟩ ?_
      refine Qaa ?_
      refine Qan ?_
      obtain rfl := osi h
      exact fend ⟨[B x14], ⟨rot (by kernel_rfl), trivial⟩, rfl⟩ nll
     ·replace h := Qau hb12 h
      refine wx tbk [(2, rp [(.tmp 38, (B ((x9.2 == 2))))] (B true)), (16, rp [(.tmp 51, B true)] Qg5), (17, rp [(.tmp 51, B true), (.tmp 52, (Qk0 x9)), (.tmp 53, Qg5)] (B ((([x9.1.Turbine, x9.1.Vent, x9.1.Air, x9.1.Work, x9.1.Sink, x9.1.Scale, x9.1.Hot.Mass, x9.1.Hot.Heat, x9.1.Hot.Silica, x9.1.Hot.Gas, x9.1.Brine.Mass, x9.1.Brine.Heat, x9.1.Brine.Silica, x9.1.Brine.Gas] : List Int) == [0, 0, 0, 0, 0, 0, 0, 0, 0, 0, 0, 0, 0, 0])))), (19, rp [(.tmp 55, (B ((([x9.1.Turbine, x9.1.Vent, x9.1.Air, x9.1.Work, x9.1.Sink, x9.1.Scale, x9.1.Hot.Mass, x9.1.Hot.Heat, x9.1.Hot.Silica, x9.1.Hot.Gas, x9.1.Brine.Mass, x9.1.Brine.Heat, x9.1.Brine.Silica, x9.1.Brine.Gas] : List Int) == [0, 0, 0, 0, 0, 0, 0, 0, 0, 0, 0, 0, 0, 0]))))] (B false))] ⟨asb hb11 (amv rfl), ag_ (Qao (vs := []) rfl ts37 tz37 rfl (by rfl) rfl), ag_ (Qer (ls := [x9.1.Turbine, x9.1.Vent, x9.1.Air, x9.1.Work, x9.1.Sink, x9.1.Scale, x9.1.Hot.Mass, x9.1.Hot.Heat, x9.1.Hot.Silica, x9.1.Hot.Gas, x9.1.Brine.Mass, x9.1.Brine.Heat, x9.1.Brine.Silica, x9.1.Brine.Gas]) (ks := [0, 0, 0, 0, 0, 0, 0, 0, 0, 0, 0, 0, 0, 0]) rfl rfl Qvq (by kernel_rfl) rfl rfl), asb hb12 (amv rfl), trivial⟩ ?_
      refine Qaa ?_
      refine Qan ?_
      obtain rfl := osi h
      exact fend ⟨[B false], ⟨rot (by kernel_rfl), trivial⟩, rfl⟩ nll
    ·replace h := Qau hb11 h
     rcases bft ((x9.2 == 9)) with hb15 | hb15
     ·replace h := Qat hb15 h
      rcases bft ((([x9.1.Turbine, x9.1.Vent, x9.1.Air, x9.1.Work, x9.1.Sink, x9.1.Scale, x9.1.Hot.Mass, x9.1.Hot.Heat, x9.1.Hot.Silica, x9.1.Hot.Gas, x9.1.Brine.Mass, x9.1.Brine.Heat, x9.1.Brine.Silica, x9.1.Brine.Gas] : List Int) == [0, 0, 0, 0, 0, 0, 0, 0, 0, 0, 0, 0, 0, 0])) with hb16 | hb16
      ·replace h := Qat hb16 h
       obtain ⟨x18, hf17, h⟩ := bno h
       refine wx tbk [(2, rp [(.tmp 38, (B ((x9.2 == 2))))] (B false)), (6, rp [(.tmp 42, (B ((x9.2 == 9))))] (B true)), (16, rp [(.tmp 51, B true)] Qg5), (17, rp [(.tmp 51, B true), (.tmp 52, (Qk0 x9)), (.tmp 53, Qg5)] (B ((([x9.1.Turbine, x9.1.Vent, x9.1.Air, x9.1.Work, x9.1.Sink, x9.1.Scale, x9.1.Hot.Mass, x9.1.Hot.Heat, x9.1.Hot.Silica, x9.1.Hot.Gas, x9.1.Brine.Mass, x9.1.Brine.Heat, x9.1.Brine.Silica, x9.1.Brine.Gas] : List Int) == [0, 0, 0, 0, 0, 0, 0, 0, 0, 0, 0, 0, 0, 0])))), (19, rp [(.tmp 55, (B ((([x9.1.Turbine, x9.1.Vent, x9.1.Air, x9.1.Work, x9.1.Sink, x9.1.Scale, x9.1.Hot.Mass, x9.1.Hot.Heat, x9.1.Hot.Silica, x9.1.Hot.Gas, x9.1.Brine.Mass, x9.1.Brine.Heat, x9.1.Brine.Silica, x9.1.Brine.Gas] : List Int) == [0, 0, 0, 0, 0, 0, 0, 0, 0, 0, 0, 0, 0, 0]))))] (B true)), (20, rp [(.tmp 56, B true), fu 7] (B x18))] ⟨asb hb11 (amv rfl), asb hb15 (amv rfl), ag_ (Qao (vs := []) rfl ts37 tz37 rfl (by rfl) rfl), ag_ (Qer (ls := [x9.1.Turbine, x9.1.Vent, x9.1.Air, x9.1.Work, x9.1.Sink, x9.1.Scale, x9.1.Hot.Mass, x9.1.Hot.Heat, x9.1.Hot.Silica, x9.1.Hot.Gas, x9.1.Brine.Mass, x9.1.Brine.Heat, x9.1.Brine.Silica, x9.1.Brine.Gas]) (ks := [0, 0, 0, 0, 0, 0, 0, 0, 0, 0, 0, 0, 0, 0]) rfl rfl Qvq (by kernel_rfl) rfl rfl), asb hb16 (amv rfl), ag_ (apc (first := []) (cap := []) (vs := []) rfl Qpt (Qep 2000  _ hf17) rfl rfl nl0 nll rfl), trivial⟩ ?_
       refine Qaa ?_
       refine Qan ?_
       obtain rfl := osi h
       exact fend ⟨[B x18], ⟨rot (by kernel_rfl), trivial⟩, rfl⟩ nll
      ·replace h := Qau hb16 h
       refine wx tbk [(2, rp [(.tmp 38, (B ((x9.2 == 2))))] (B false)), (6, rp [(.tmp 42, (B ((x9.2 == 9))))] (B true)), (16, rp [(.tmp 51, B true)] Qg5), (17, rp [(.tmp 51, B true), (.tmp 52, (Qk0 x9)), (.tmp 53, Qg5)] (B ((([x9.1.Turbine, x9.1.Vent, x9.1.Air, x9.1.Work, x9.1.Sink, x9.1.Scale, x9.1.Hot.Mass, x9.1.Hot.Heat, x9.1.Hot.Silica, x9.1.Hot.Gas, x9.1.Brine.Mass, x9.1.Brine.Heat, x9.1.Brine.Silica, x9.1.Brine.Gas] : List Int) == [0, 0, 0, 0, 0, 0, 0, 0, 0, 0, 0, 0, 0, 0])))), (19, rp [(.tmp 55, (B ((([x9.1.Turbine, x9.1.Vent, x9.1.Air, x9.1.Work, x9.1.Sink, x9.1.Scale, x9.1.Hot.Mass, x9.1.Hot.Heat, x9.1.Hot.Silica, x9.1.Hot.Gas, x9.1.Brine.Mass, x9.1.Brine.Heat, x9.1.Brine.Silica, x9.1.Brine.Gas] : List Int) == [0, 0, 0, 0, 0, 0, 0, 0, 0, 0, 0, 0, 0, 0]))))] (B false))] ⟨asb hb11 (amv rfl), asb hb15 (amv rfl), ag_ (Qao (vs := []) rfl ts37 tz37 rfl (by rfl) rfl), ag_ (Qer (ls := [x9.1.Turbine, x9.1.Vent, x9.1.Air, x9.1.Work, x9.1.Sink, x9.1.Scale, x9.1.Hot.Mass, x9.1.Hot.Heat, x9.1.Hot.Silica, x9.1.Hot.Gas, x9.1.Brine.Mass, x9.1.Brine.Heat, x9.1.Brine.Silica, x9.1.Brine.Gas]) (ks := [0, 0, 0, 0, 0, 0, 0, 0, 0, 0, 0, 0, 0, 0]) rfl rfl Qvq (by kernel_rfl) rfl rfl), asb hb16 (amv rfl), trivial⟩ ?_
       refine Qaa ?_
       refine Qan ?_
       obtain rfl := osi h
       exact fend ⟨[B false], ⟨rot (by kernel_rfl), trivial⟩, rfl⟩ nll
     ·replace h := Qau hb15 h
      rcases bft ((x9.2 == 3)) with hb19 | hb19
      ·replace h := Qat hb19 h
       rcases bft ((([x9.1.Turbine, x9.1.Vent, x9.1.Air, x9.1.Work, x9.1.Sink, x9.1.Scale, x9.1.Hot.Mass, x9.1.Hot.Heat, x9.1.Hot.Silica, x9.1.Hot.Gas, x9.1.Brine.Mass, x9.1.Brine.Heat, x9.1.Brine.Silica, x9.1.Brine.Gas] : List Int) == [0, 0, 0, 0, 0, 0, 0, 0, 0, 0, 0, 0, 0, 0])) with hb20 | hb20
       ·replace h := Qat hb20 h
        obtain ⟨x22, hf21, h⟩ := bno h
        refine wx tbk [(2, rp [(.tmp 38, (B ((x9.2 == 2))))] (B false)), (6, rp [(.tmp 42, (B ((x9.2 == 9))))] (B false)), (10, rp [(.tmp 46, (B ((x9.2 == 3))))] (B true)), (16, rp [(.tmp 51, B true)] Qg5), (17, rp [(.tmp 51, B true), (.tmp 52, (Qk0 x9)), (.tmp 53, Qg5)] (B ((([x9.1.Turbine, x9.1.Vent, x9.1.Air, x9.1.Work, x9.1.Sink, x9.1.Scale, x9.1.Hot.Mass, x9.1.Hot.Heat, x9.1.Hot.Silica, x9.1.Hot.Gas, x9.1.Brine.Mass, x9.1.Brine.Heat, x9.1.Brine.Silica, x9.1.Brine.Gas] : List Int) == [0, 0, 0, 0, 0, 0, 0, 0, 0, 0, 0, 0, 0, 0])))), (19, rp [(.tmp 55, (B ((([x9.1.Turbine, x9.1.Vent, x9.1.Air, x9.1.Work, x9.1.Sink, x9.1.Scale, x9.1.Hot.Mass, x9.1.Hot.Heat, x9.1.Hot.Silica, x9.1.Hot.Gas, x9.1.Brine.Mass, x9.1.Brine.Heat, x9.1.Brine.Silica, x9.1.Brine.Gas] : List Int) == [0, 0, 0, 0, 0, 0, 0, 0, 0, 0, 0, 0, 0, 0]))))] (B true)), (20, rp [(.tmp 56, B true), fu 7] (B x22))] ⟨asb hb11 (amv rfl), asb hb15 (amv rfl), asb hb19 (amv rfl), ag_ (Qao (vs := []) rfl ts37 tz37 rfl (by rfl) rfl), ag_ (Qer (ls := [x9.1.Turbine, x9.1.Vent, x9.1.Air, x9.1.Work, x9.1.Sink, x9.1.Scale, x9.1.Hot.Mass, x9.1.Hot.Heat, x9.1.Hot.Silica, x9.1.Hot.Gas, x9.1.Brine.Mass, x9.1.Brine.Heat, x9.1.Brine.Silica, x9.1.Brine.Gas]) (ks := [0, 0, 0, 0, 0, 0, 0, 0, 0, 0, 0, 0, 0, 0]) rfl rfl Qvq (by kernel_rfl) rfl rfl), asb hb20 (amv rfl), ag_ (apc (first := []) (cap := []) (vs := []) rfl Qpt (Qep 2000  _ hf21) rfl rfl nl0 nll rfl), trivial⟩ ?_
        refine Qaa ?_
        refine Qan ?_
        obtain rfl := osi h
        exact fend ⟨[B x22], ⟨rot (by kernel_rfl), trivial⟩, rfl⟩ nll
       ·replace h := Qau hb20 h
        refine wx tbk [(2, rp [(.tmp 38, (B ((x9.2 == 2))))] (B false)), (6, rp [(.tmp 42, (B ((x9.2 == 9))))] (B false)), (10, rp [(.tmp 46, (B ((x9.2 == 3))))] (B true)), (16, rp [(.tmp 51, B true)] Qg5), (17, rp [(.tmp 51, B true), (.tmp 52, (Qk0 x9)), (.tmp 53, Qg5)] (B ((([x9.1.Turbine, x9.1.Vent, x9.1.Air, x9.1.Work, x9.1.Sink, x9.1.Scale, x9.1.Hot.Mass, x9.1.Hot.Heat, x9.1.Hot.Silica, x9.1.Hot.Gas, x9.1.Brine.Mass, x9.1.Brine.Heat, x9.1.Brine.Silica, x9.1.Brine.Gas] : List Int) == [0, 0, 0, 0, 0, 0, 0, 0, 0, 0, 0, 0, 0, 0])))), (19, rp [(.tmp 55, (B ((([x9.1.Turbine, x9.1.Vent, x9.1.Air, x9.1.Work, x9.1.Sink, x9.1.Scale, x9.1.Hot.Mass, x9.1.Hot.Heat, x9.1.Hot.Silica, x9.1.Hot.Gas, x9.1.Brine.Mass, x9.1.Brine.Heat, x9.1.Brine.Silica, x9.1.Brine.Gas] : List Int) == [0, 0, 0, 0, 0, 0, 0, 0, 0, 0, 0, 0, 0, 0]))))] (B false))] ⟨asb hb11 (amv rfl), asb hb15 (amv rfl), asb hb19 (amv rfl), ag_ (Qao (vs := []) rfl ts37 tz37 rfl (by rfl) rfl), ag_ (Qer (ls := [x9.1.Turbine, x9.1.Vent, x9.1.Air, x9.1.Work, x9.1.Sink, x9.1.Scale, x9.1.Hot.Mass, x9.1.Hot.Heat, x9.1.Hot.Silica, x9.1.Hot.Gas, x9.1.Brine.Mass, x9.1.Brine.Heat, x9.1.Brine.Silica, x9.1.Brine.Gas]) (ks := [0, 0, 0, 0, 0, 0, 0, 0, 0, 0, 0, 0, 0, 0]) rfl rfl Qvq (by kernel_rfl) rfl rfl), asb hb20 (amv rfl), trivial⟩ ?_
        refine Qaa ?_
        refine Qan ?_
        obtain rfl := osi h
        exact fend ⟨[B false], ⟨rot (by kernel_rfl), trivial⟩, rfl⟩ nll
      ·replace h := Qau hb19 h
       rcases bft ((x9.2 == 11)) with hb23 | hb23
       ·replace h := Qat hb23 h
        rcases bft ((([x9.1.Turbine, x9.1.Vent, x9.1.Air, x9.1.Work, x9.1.Sink, x9.1.Scale, x9.1.Hot.Mass, x9.1.Hot.Heat, x9.1.Hot.Silica, x9.1.Hot.Gas, x9.1.Brine.Mass, x9.1.Brine.Heat, x9.1.Brine.Silica, x9.1.Brine.Gas] : List Int) == [0, 0, 0, 0, 0, 0, 0, 0, 0, 0, 0, 0, 0, 0])) with hb24 | hb24
        ·replace h := Qat hb24 h
         obtain ⟨x26, hf25, h⟩ := bno h
         refine wx tbk [(2, rp [(.tmp 38, (B ((x9.2 == 2))))] (B false)), (6, rp [(.tmp 42, (B ((x9.2 == 9))))] (B false)), (10, rp [(.tmp 46, (B ((x9.2 == 3))))] (B false)), (14, rp [(.tmp 50, (B ((x9.2 == 11))))] (B true)), (16, rp [(.tmp 51, B true)] Qg5), (17, rp [(.tmp 51, B true), (.tmp 52, (Qk0 x9)), (.tmp 53, Qg5)] (B ((([x9.1.Turbine, x9.1.Vent, x9.1.Air, x9.1.Work, x9.1.Sink, x9.1.Scale, x9.1.Hot.Mass, x9.1.Hot.Heat, x9.1.Hot.Silica, x9.1.Hot.Gas, x9.1.Brine.Mass, x9.1.Brine.Heat, x9.1.Brine.Silica, x9.1.Brine.Gas] : List Int) == [0, 0, 0, 0, 0, 0, 0, 0, 0, 0, 0, 0, 0, 0])))), (19, rp [(.tmp 55, (B ((([x9.1.Turbine, x9.1.Vent, x9.1.Air, x9.1.Work, x9.1.Sink, x9.1.Scale, x9.1.Hot.Mass, x9.1.Hot.Heat, x9.1.Hot.Silica, x9.1.Hot.Gas, x9.1.Brine.Mass, x9.1.Brine.Heat, x9.1.Brine.Silica, x9.1.Brine.Gas] : List Int) == [0, 0, 0, 0, 0, 0, 0, 0, 0, 0, 0, 0, 0, 0]))))] (B true)), (20, rp [(.tmp 56, B true), fu 7] (B x26))] ⟨asb hb11 (amv rfl), asb hb15 (amv rfl), asb hb19 (amv rfl), asb hb23 (amv rfl), ag_ (Qao (vs := []) rfl ts37 tz37 rfl (by rfl) rfl), ag_ (Qer (ls := [x9.1.Turbine, x9.1.Vent, x9.1.Air, x9.1.Work, x9.1.Sink, x9.1.Scale, x9.1.Hot.Mass, x9.1.Hot.Heat, x9.1.Hot.Silica, x9.1.Hot.Gas, x9.1.Brine.Mass, x9.1.Brine.Heat, x9.1.Brine.Silica, x9.1.Brine.Gas]) (ks := [0, 0, 0, 0, 0, 0, 0, 0, 0, 0, 0, 0, 0, 0]) rfl rfl Qvq (by kernel_rfl) rfl rfl), asb hb24 (amv rfl), ag_ (apc (first := []) (cap := []) (vs := []) rfl Qpt (Qep 2000  _ hf25) rfl rfl nl0 nll rfl), trivial⟩ ?_
         refine Qaa ?_
         refine Qan ?_
         obtain rfl := osi h
         exact fend ⟨[B x26], ⟨rot (by kernel_rfl), trivial⟩, rfl⟩ nll
        ·replace h := Qau hb24 h
         refine wx tbk [(2, rp [(.tmp 38, (B ((x9.2 == 2))))] (B false)), (6, rp [(.tmp 42, (B ((x9.2 == 9))))] (B false)), (10, rp [(.tmp 46, (B ((x9.2 == 3))))] (B false)), (14, rp [(.tmp 50, (B ((x9.2 == 11))))] (B true)), (16, rp [(.tmp 51, B true)] Qg5), (17, rp [(.tmp 51, B true), (.tmp 52, (Qk0 x9)), (.tmp 53, Qg5)] (B ((([x9.1.Turbine, x9.1.Vent, x9.1.Air, x9.1.Work, x9.1.Sink, x9.1.Scale, x9.1.Hot.Mass, x9.1.Hot.Heat, x9.1.Hot.Silica, x9.1.Hot.Gas, x9.1.Brine.Mass, x9.1.Brine.Heat, x9.1.Brine.Silica, x9.1.Brine.Gas] : List Int) == [0, 0, 0, 0, 0, 0, 0, 0, 0, 0, 0, 0, 0, 0])))), (19, rp [(.tmp 55, (B ((([x9.1.Turbine, x9.1.Vent, x9.1.Air, x9.1.Work, x9.1.Sink, x9.1.Scale, x9.1.Hot.Mass, x9.1.Hot.Heat, x9.1.Hot.Silica, x9.1.Hot.Gas, x9.1.Brine.Mass, x9.1.Brine.Heat, x9.1.Brine.Silica, x9.1.Brine.Gas] : List Int) == [0, 0, 0, 0, 0, 0, 0, 0, 0, 0, 0, 0, 0, 0]))))] (B false))] ⟨asb hb11 (amv rfl), asb hb15 (amv rfl), asb hb19 (amv rfl), asb hb23 (amv rfl), ag_ (Qao (vs := []) rfl ts37 tz37 rfl (by rfl) rfl), ag_ (Qer (ls := [x9.1.Turbine, x9.1.Vent, x9.1.Air, x9.1.Work, x9.1.Sink, x9.1.Scale, x9.1.Hot.Mass, x9.1.Hot.Heat, x9.1.Hot.Silica, x9.1.Hot.Gas, x9.1.Brine.Mass, x9.1.Brine.Heat, x9.1.Brine.Silica, x9.1.Brine.Gas]) (ks := [0, 0, 0, 0, 0, 0, 0, 0, 0, 0, 0, 0, 0, 0]) rfl rfl Qvq (by kernel_rfl) rfl rfl), asb hb24 (amv rfl), trivial⟩ ?_
         refine Qaa ?_
         refine Qan ?_
         obtain rfl := osi h
         exact fend ⟨[B false], ⟨rot (by kernel_rfl), trivial⟩, rfl⟩ nll
       ·replace h := Qau hb23 h
        refine wx tbk [(2, rp [(.tmp 38, (B ((x9.2 == 2))))] (B false)), (6, rp [(.tmp 42, (B ((x9.2 == 9))))] (B false)), (10, rp [(.tmp 46, (B ((x9.2 == 3))))] (B false)), (14, rp [(.tmp 50, (B ((x9.2 == 11))))] (B false))] ⟨asb hb11 (amv rfl), asb hb15 (amv rfl), asb hb19 (amv rfl), asb hb23 (amv rfl), trivial⟩ ?_
        refine Qaa ?_
        refine Qan ?_
        obtain rfl := osi h
        exact fend ⟨[B false], ⟨rot (by kernel_rfl), trivial⟩, rfl⟩ nll
   ·replace h := Qau hc10 h
    refine wfn hc10 (by kernel_rfl) ?_
    refine Qam ?_
    refine thn ?_
    obtain ⟨x27, hl28, h⟩ := bno h
    obtain ⟨x29, hl30, h⟩ := bno h
    refine wx tbk [(10, rp [(.tmp 66, (I (w64 ((w64 (x9.1.Turbine + x9.1.Air)) + x9.1.Work)))), (.tmp 68, I x9.1.Sink)] (I x27)), (19, rp [(.tmp 77, (I (w64 ((w64 (x27 + x9.1.Hot.Heat)) + x9.1.Brine.Heat))))] (I x29))] ⟨Qd8 hl28 (abn rfl rfl), Qd8 hl30 (aas rfl), trivial⟩ ?_
    obtain ⟨k32, hk_k32, h⟩ := jko h
    refine wjn (τ := Bool) (fun t => k32 t = some r) (fun y31 => ⟨mk 191 [(4, .ref 0 4 0 0), (5, .ref 1 4 0 0), (7, .ref 2 14 0 0), (9, I x29), (10, B y31)], [(Qlz p1), (Qly p2), (Qkz x9)]⟩) (fun y31 h => ?_) ?_
    ·subst hk_k32
     rcases bft (y31) with hb33 | hb33
     ·replace h := Qat hb33 h
      rcases bft ((x29 == (w64 (p1.Heat + p2.Heat)))) with hb34 | hb34
      ·replace h := Qat hb34 h
       rcases bft (((w64 (x9.1.Hot.Mass + x9.1.Brine.Mass)) == (w64 (p1.Mass + p2.Mass)))) with hb35 | hb35
       ·replace h := Qat hb35 h
        obtain ⟨x36, hl37, h⟩ := bno h
        rcases bft ((x36 == (w64 (p1.Silica + p2.Silica)))) with hb38 | hb38
        ·replace h := Qat hb38 h
         rcases bft (((w64 (x9.1.Vent + x9.1.Brine.Gas)) == (w64 (p1.Gas + p2.Gas)))) with hb39 | hb39
         ·replace h := Qat hb39 h
          obtain ⟨x41, hf40, h⟩ := bno h
          rcases bft ((x41 == 0)) with hb42 | hb42
          ·replace h := Qat hb42 h
           obtain ⟨x44, hf43, h⟩ := bno h
           rcases bft ((x44 == 0)) with hb45 | hb45
           ·replace h := Qat hb45 h
            obtain ⟨x47, hf46, h⟩ := bno h
            refine wx tbk [(1, rp [(.tmp 119, B y31)] (B true)), (10, rp [(.tmp 128, (B ((x29 == (w64 (p1.Heat + p2.Heat))))))] (B true)), (25, rp [(.tmp 143, (B (((w64 (x9.1.Hot.Mass + x9.1.Brine.Mass)) == (w64 (p1.Mass + p2.Mass))))))] (B true)), (35, rp [(.tmp 144, B true), (.tmp 151, (I (w64 (x9.1.Hot.Silica + x9.1.Brine.Silica)))), (.tmp 153, I x9.1.Scale)] (I x36)), (43, rp [(.tmp 161, (B ((x36 == (w64 (p1.Silica + p2.Silica))))))] (B true)), (57, rp [(.tmp 175, (B (((w64 (x9.1.Vent + x9.1.Brine.Gas)) == (w64 (p1.Gas + p2.Gas))))))] (B true)), (60, rp [(.tmp 176, B true), fu 15, (.tmp 178, (Qo3 x9))] (I x41)), (63, rp [(.tmp 181, (B ((x41 == 0))))] (B true)), (66, rp [(.tmp 182, B true), fu 15, (.tmp 184, (Qs7 x9))] (I x44)), (69, rp [(.tmp 187, (B ((x44 == 0))))] (B true)), (70, rp [(.tmp 188, B true), fu 7] (B x47))] ⟨asb hb33 (amv rfl), asb hb34 (amv rfl), asb hb35 (amv rfl), Qd8 hl37 (ag_ (abn rfl rfl)), asb hb38 (amv rfl), asb hb39 (amv rfl), ag_ (apc (first := []) (cap := []) (vs := [(Qo3 x9)]) rfl Qpi (Qdz N (⟨x9.1.Hot.Mass, x9.1.Hot.Heat, x9.1.Hot.Silica, x9.1.Hot.Gas⟩ : GStream) _ hf40) rfl rfl (nlc (NLt.agg _ (nlc nll (nlc nll (nlc nll (nlc nll nl0))))) nl0) nll rfl), asb hb42 (amv rfl), ag_ (apc (first := []) (cap := []) (vs := [(Qs7 x9)]) rfl Qpi (Qdz N (⟨x9.1.Brine.Mass, x9.1.Brine.Heat, x9.1.Brine.Silica, x9.1.Brine.Gas⟩ : GStream) _ hf43) rfl rfl (nlc (NLt.agg _ (nlc nll (nlc nll (nlc nll (nlc nll nl0))))) nl0) nll rfl), asb hb45 (amv rfl), ag_ (apc (first := []) (cap := []) (vs := []) rfl Qpt (Qep 2000  _ hf46) rfl rfl nl0 nll rfl), trivial⟩ ?_
            refine Qaa ?_
            obtain rfl := osi h
            exact fend ⟨[B x47], ⟨rot (by kernel_rfl), trivial⟩, rfl⟩ nll
           ·replace h := Qau hb45 h
            refine wx tbk [(1, rp [(.tmp 119, B y31)] (B true)), (10, rp [(.tmp 128, (B ((x29 == (w64 (p1.Heat + p2.Heat))))))] (B true)), (25, rp [(.tmp 143, (B (((w64 (x9.1.Hot.Mass + x9.1.Brine.Mass)) == (w64 (p1.Mass + p2.Mass))))))] (B true)), (35, rp [(.tmp 144, B true), (.tmp 151, (I (w64 (x9.1.Hot.Silica + x9.1.Brine.Silica)))), (.tmp 153, I x9.1.Scale)] (I x36)), (43, rp [(.tmp 161, (B ((x36 == (w64 (p1.Silica + p2.Silica))))))] (B true)), (57, rp [(.tmp 175, (B (((w64 (x9.1.Vent + x9.1.Brine.Gas)) == (w64 (p1.Gas + p2.Gas))))))] (B true)), (60, rp [(.tmp 176, B true), fu 15, (.tmp 178, (Qo3 x9))] (I x41)), (63, rp [(.tmp 181, (B ((x41 == 0))))] (B true)), (66, rp [(.tmp 182, B true), fu 15, (.tmp 184, (Qs7 x9))] (I x44)), (69, rp [(.tmp 187, (B ((x44 == 0))))] (B false))] ⟨asb hb33 (amv rfl), asb hb34 (amv rfl), asb hb35 (amv rfl), Qd8 hl37 (ag_ (abn rfl rfl)), asb hb38 (amv rfl), asb hb39 (amv rfl), ag_ (apc (first := []) (cap := []) (vs := [(Qo3 x9)]) rfl Qpi (Qdz N (⟨x9.1.Hot.Mass, x9.1.Hot.Heat, x9.1.Hot.Silica, x9.1.Hot.Gas⟩ : GStream) _ hf40) rfl rfl (nlc (NLt.agg _ (nlc nll (nlc nll (nlc nll (nlc nll nl0))))) nl0) nll rfl), asb hb42 (amv rfl), ag_ (apc (first := []) (cap := []) (vs := [(Qs7 x9)]) rfl Qpi (Qdz N (⟨x9.1.Brine.Mass, x9.1.Brine.Heat, x9.1.Brine.Silica, x9.1.Brine.Gas⟩ : GStream) _ hf43) rfl rfl (nlc (NLt.agg _ (nlc nll (nlc nll (nlc nll (nlc nll nl0))))) nl0) nll rfl), asb hb45 (amv rfl), trivial⟩ ?_
            refine Qaa ?_
            obtain rfl := osi h
            exact fend ⟨[B false], ⟨rot (by kernel_rfl), trivial⟩, rfl⟩ nll
          ·replace h := Qau hb42 h
           refine wx tbk [(1, rp [(.tmp 119, B y31)] (B true)), (10, rp [(.tmp 128, (B ((x29 == (w64 (p1.Heat + p2.Heat))))))] (B true)), (25, rp [(.tmp 143, (B (((w64 (x9.1.Hot.Mass + x9.1.Brine.Mass)) == (w64 (p1.Mass + p2.Mass))))))] (B true)), (35, rp [(.tmp 144, B true), (.tmp 151, (I (w64 (x9.1.Hot.Silica + x9.1.Brine.Silica)))), (.tmp 153, I x9.1.Scale)] (I x36)), (43, rp [(.tmp 161, (B ((x36 == (w64 (p1.Silica + p2.Silica))))))] (B true)), (57, rp [(.tmp 175, (B (((w64 (x9.1.Vent + x9.1.Brine.Gas)) == (w64 (p1.Gas + p2.Gas))))))] (B true)), (60, rp [(.tmp 176, B true), fu 15, (.tmp 178, (Qo3 x9))] (I x41)), (63, rp [(.tmp 181, (B ((x41 == 0))))] (B false))] ⟨asb hb33 (amv rfl), asb hb34 (amv rfl), asb hb35 (amv rfl), Qd8 hl37 (ag_ (abn rfl rfl)), asb hb38 (amv rfl), asb hb39 (amv rfl), ag_ (apc (first := []) (cap := []) (vs := [(Qo3 x9)]) rfl Qpi (Qdz N (⟨x9.1.Hot.Mass, x9.1.Hot.Heat, x9.1.Hot.Silica, x9.1.Hot.Gas⟩ : GStream) _ hf40) rfl rfl (nlc (NLt.agg _ (nlc nll (nlc nll (nlc nll (nlc nll nl0))))) nl0) nll rfl), asb hb42 (amv rfl), trivial⟩ ?_
           refine Qaa ?_
           obtain rfl := osi h
           exact fend ⟨[B false], ⟨rot (by kernel_rfl), trivial⟩, rfl⟩ nll
         ·replace h := Qau hb39 h
          refine wx tbk [(1, rp [(.tmp 119, B y31)] (B true)), (10, rp [(.tmp 128, (B ((x29 == (w64 (p1.Heat + p2.Heat))))))] (B true)), (25, rp [(.tmp 143, (B (((w64 (x9.1.Hot.Mass + x9.1.Brine.Mass)) == (w64 (p1.Mass + p2.Mass))))))] (B true)), (35, rp [(.tmp 144, B true), (.tmp 151, (I (w64 (x9.1.Hot.Silica + x9.1.Brine.Silica)))), (.tmp 153, I x9.1.Scale)] (I x36)), (43, rp [(.tmp 161, (B ((x36 == (w64 (p1.Silica + p2.Silica))))))] (B true)), (57, rp [(.tmp 175, (B (((w64 (x9.1.Vent + x9.1.Brine.Gas)) == (w64 (p1.Gas + p2.Gas))))))] (B false))] ⟨asb hb33 (amv rfl), asb hb34 (amv rfl), asb hb35 (amv rfl), Qd8 hl37 (ag_ (abn rfl rfl)), asb hb38 (amv rfl), asb hb39 (amv rfl), trivial⟩ ?_
          refine Qaa ?_
          obtain rfl := osi h
          exact fend ⟨[B false], ⟨rot (by kernel_rfl), trivial⟩, rfl⟩ nll
        ·replace h := Qau hb38 h
         refine wx tbk [(1, rp [(.tmp 119, B y31)] (B true)), (10, rp [(.tmp 128, (B ((x29 == (w64 (p1.Heat + p2.Heat))))))] (B true)), (25, rp [(.tmp 143, (B (((w64 (x9.1.Hot.Mass + x9.1.Brine.Mass)) == (w64 (p1.Mass + p2.Mass))))))] (B true)), (35, rp [(.tmp 144, B true), (.tmp 151, (I (w64 (x9.1.Hot.Silica + x9.1.Brine.Silica)))), (.tmp 153, I x9.1.Scale)] (I x36)), (43, rp [(.tmp 161, (B ((x36 == (w64 (p1.Silica + p2.Silica))))))] (B false))] ⟨asb hb33 (amv rfl), asb hb34 (amv rfl), asb hb35 (amv rfl), Qd8 hl37 (ag_ (abn rfl rfl)), asb hb38 (amv rfl), trivial⟩ ?_
         refine Qaa ?_
         obtain rfl := osi h
         exact fend ⟨[B false], ⟨rot (by kernel_rfl), trivial⟩, rfl⟩ nll
       ·replace h := Qau hb35 h
        refine wx tbk [(1, rp [(.tmp 119, B y31)] (B true)), (10, rp [(.tmp 128, (B ((x29 == (w64 (p1.Heat + p2.Heat))))))] (B true)), (25, rp [(.tmp 143, (B (((w64 (x9.1.Hot.Mass + x9.1.Brine.Mass)) == (w64 (p1.Mass + p2.Mass))))))] (B false))] ⟨asb hb33 (amv rfl), asb hb34 (amv rfl), asb hb35 (amv rfl), trivial⟩ ?_
        refine Qaa ?_
        obtain rfl := osi h
        exact fend ⟨[B false], ⟨rot (by kernel_rfl), trivial⟩, rfl⟩ nll
      ·replace h := Qau hb34 h
       refine wx tbk [(1, rp [(.tmp 119, B y31)] (B true)), (10, rp [(.tmp 128, (B ((x29 == (w64 (p1.Heat + p2.Heat))))))] (B false))] ⟨asb hb33 (amv rfl), asb hb34 (amv rfl), trivial⟩ ?_
       refine Qaa ?_
       obtain rfl := osi h
       exact fend ⟨[B false], ⟨rot (by kernel_rfl), trivial⟩, rfl⟩ nll
     ·replace h := Qau hb33 h
      refine wx tbk [(1, rp [(.tmp 119, B y31)] (B false))] ⟨asb hb33 (amv rfl), trivial⟩ ?_
      refine Qaa ?_
      obtain rfl := osi h
      exact fend ⟨[B false], ⟨rot (by kernel_rfl), trivial⟩, rfl⟩ nll
    ·skip
     rcases bft ((decide (x9.1.Turbine ≥ 0))) with hb48 | hb48
     ·replace h := Qat hb48 h
      rcases bft ((decide (x9.1.Air ≥ 0))) with hb49 | hb49
      ·replace h := Qat hb49 h
       rcases bft ((decide (x9.1.Work ≥ 0))) with hb50 | hb50
       ·replace h := Qat hb50 h
        rcases bft ((decide (x9.1.Sink ≥ 0))) with hb51 | hb51
        ·replace h := Qat hb51 h
         rcases bft ((decide (x9.1.Vent ≥ 0))) with hb52 | hb52
         ·replace h := Qat hb52 h
          rcases bft ((decide (x9.1.Vent ≤ p0.Most))) with hb53 | hb53
          ·replace h := Qat hb53 h
           rcases bft ((decide (x9.1.Scale ≥ 0))) with hb54 | hb54
           ·replace h := Qat hb54 h
            refine wx1 tbk [(3, rp [(.tmp 80, (B ((decide (x9.1.Turbine ≥ 0)))))] (B true)), (8, rp [(.tmp 85, (B ((decide (x9.1.Air ≥ 0)))))] (B true)), (13, rp [(.tmp 90, (B ((decide (x9.1.Work ≥ 0)))))] (B true)), (18, rp [(.tmp 95, (B ((decide (x9.1.Sink ≥ 0)))))] (B true)), (23, rp [(.tmp 100, (B ((decide (x9.1.Vent ≥ 0)))))] (B true)), (30, rp [(.tmp 107, (B ((decide (x9.1.Vent ≤ p0.Most)))))] (B true)), (35, rp [(.tmp 112, (B ((decide (x9.1.Scale ≥ 0)))))] (B true))] ⟨asb hb48 (amv rfl), asb hb49 (amv rfl), asb hb50 (amv rfl), asb hb51 (amv rfl), asb hb52 (amv rfl), asb hb53 (amv rfl), asb hb54 (amv rfl), trivial⟩ ?_
            refine thn ?_
            exact ⟨((x9.1.Hot.Gas == 0)), h, (mto (n := 191) [(4, .ref 1 4 0 0), (5, .ref 2 4 0 0), (7, .ref 3 14 0 0), (9, I x29), (10, (B ((x9.1.Hot.Gas == 0))))] [1, 2, 3] [(Qlz p1), (Qly p2), (Qkz x9)] hφ0 (pc (.rn (rqr rfl)) (pc (.rn (rqr rfl)) (pc (.rn (rqr rfl)) (pc rwl (pc rwl pn))))) (qc (spb (lc rwl (lc rwl (lc rwl (lc rwl ln))))) (qc (spb (lc rwl (lc rwl (lc rwl (lc rwl ln))))) (qc (spb (lc rwl (lc rwl (lc rwl (lc rwl (lc rwl (lc rwl (lc rwl (lc rwl (lc rwl (lc rwl (lc rwl (lc rwl (lc rwl (lc rwl ln))))))))))))))) qn))))⟩
           ·replace h := Qau hb54 h
            refine wx1 tbk [(3, rp [(.tmp 80, (B ((decide (x9.1.Turbine ≥ 0)))))] (B true)), (8, rp [(.tmp 85, (B ((decide (x9.1.Air ≥ 0)))))] (B true)), (13, rp [(.tmp 90, (B ((decide (x9.1.Work ≥ 0)))))] (B true)), (18, rp [(.tmp 95, (B ((decide (x9.1.Sink ≥ 0)))))] (B true)), (23, rp [(.tmp 100, (B ((decide (x9.1.Vent ≥ 0)))))] (B true)), (30, rp [(.tmp 107, (B ((decide (x9.1.Vent ≤ p0.Most)))))] (B true)), (35, rp [(.tmp 112, (B ((decide (x9.1.Scale ≥ 0)))))] (B false))] ⟨asb hb48 (amv rfl), asb hb49 (amv rfl), asb hb50 (amv rfl), asb hb51 (amv rfl), asb hb52 (amv rfl), asb hb53 (amv rfl), asb hb54 (amv rfl), trivial⟩ ?_
            refine thn ?_
            exact ⟨(false), h, (mto (n := 191) [(4, .ref 1 4 0 0), (5, .ref 2 4 0 0), (7, .ref 3 14 0 0), (9, I x29), (10, B false)] [1, 2, 3] [(Qlz p1), (Qly p2), (Qkz x9)] hφ0 (pc (.rn (rqr rfl)) (pc (.rn (rqr rfl)) (pc (.rn (rqr rfl)) (pc rwl (pc rwl pn))))) (qc (spb (lc rwl (lc rwl (lc rwl (lc rwl ln))))) (qc (spb (lc rwl (lc rwl (lc rwl (lc rwl ln))))) (qc (spb (lc rwl (lc rwl (lc rwl (lc rwl (lc rwl (lc rwl (lc rwl (lc rwl (lc rwl (lc rwl (lc rwl (lc rwl (lc rwl (lc rwl ln))))))))))))))) qn))))⟩
          ·replace h := Qau hb53 h
           refine wx1 tbk [(3, rp [(.tmp 80, (B ((decide (x9.1.Turbine ≥ 0)))))] (B true)), (8, rp [(.tmp 85, (B ((decide (x9.1.Air ≥ 0)))))] (B true)), (13, rp [(.tmp 90, (B ((decide (x9.1.Work ≥ 0)))))] (B true)), (18, rp [(.tmp 95, (B ((decide (x9.1.Sink ≥ 0)))))] (B true)), (23, rp [(.tmp 100, (B ((decide (x9.1.Vent ≥ 0)))))] (B true)), (30, rp [(.tmp 107, (B ((decide (x9.1.Vent ≤ p0.Most)))))] (B false))] ⟨asb hb48 (amv rfl), asb hb49 (amv rfl), asb hb50 (amv rfl), asb hb51 (amv rfl), asb hb52 (amv rfl), asb hb53 (amv rfl), trivial⟩ ?_
           refine thn ?_
           exact ⟨(false), h, (mto (n := 191) [(4, .ref 1 4 0 0), (5, .ref 2 4 0 0), (7, .ref 3 14 0 0), (9, I x29), (10, B false)] [1, 2, 3] [(Qlz p1), (Qly p2), (Qkz x9)] hφ0 (pc (.rn (rqr rfl)) (pc (.rn (rqr rfl)) (pc (.rn (rqr rfl)) (pc rwl (pc rwl pn))))) (qc (spb (lc rwl (lc rwl (lc rwl (lc rwl ln))))) (qc (spb (lc rwl (lc rwl (lc rwl (lc rwl ln))))) (qc (spb (lc rwl (lc rwl (lc rwl (lc rwl (lc rwl (lc rwl (lc rwl (lc rwl (lc rwl (lc rwl (lc rwl (lc rwl (lc rwl (lc rwl ln))))))))))))))) qn))))⟩
         ·replace h := Qau hb52 h
          refine wx1 tbk [(3, rp [(.tmp 80, (B ((decide (x9.1.Turbine ≥ 0)))))] (B true)), (8, rp [(.tmp 85, (B ((decide (x9.1.Air ≥ 0)))))] (B true)), (13, rp [(.tmp 90, (B ((decide (x9.1.Work ≥ 0)))))] (B true)), (18, rp [(.tmp 95, (B ((decide (x9.1.Sink ≥ 0)))))] (B true)), (23, rp [(.tmp 100, (B ((decide (x9.1.Vent ≥ 0)))))] (B false))] ⟨asb hb48 (amv rfl), asb hb49 (amv rfl), asb hb50 (amv rfl), asb hb51 (amv rfl), asb hb52 (amv rfl), trivial⟩ ?_
          refine thn ?_
          exact ⟨(false), h, (mto (n := 191) [(4, .ref 1 4 0 0), (5, .ref 2 4 0 0), (7, .ref 3 14 0 0), (9, I x29), (10, B false)] [1, 2, 3] [(Qlz p1), (Qly p2), (Qkz x9)] hφ0 (pc (.rn (rqr rfl)) (pc (.rn (rqr rfl)) (pc (.rn (rqr rfl)) (pc rwl (pc rwl pn))))) (qc (spb (lc rwl (lc rwl (lc rwl (lc rwl ln))))) (qc (spb (lc rwl (lc rwl (lc rwl (lc rwl ln))))) (qc (spb (lc rwl (lc rwl (lc rwl (lc rwl (lc rwl (lc rwl (lc rwl (lc rwl (lc rwl (lc rwl (lc rwl (lc rwl (lc rwl (lc rwl ln))))))))))))))) qn))))⟩
        ·replace h := Qau hb51 h
         refine wx1 tbk [(3, rp [(.tmp 80, (B ((decide (x9.1.Turbine ≥ 0)))))] (B true)), (8, rp [(.tmp 85, (B ((decide (x9.1.Air ≥ 0)))))] (B true)), (13, rp [(.tmp 90, (B ((decide (x9.1.Work ≥ 0)))))] (B true)), (18, rp [(.tmp 95, (B ((decide (x9.1.Sink ≥ 0)))))] (B false))] ⟨asb hb48 (amv rfl), asb hb49 (amv rfl), asb hb50 (amv rfl), asb hb51 (amv rfl), trivial⟩ ?_
         refine thn ?_
         exact ⟨(false), h, (mto (n := 191) [(4, .ref 1 4 0 0), (5, .ref 2 4 0 0), (7, .ref 3 14 0 0), (9, I x29), (10, B false)] [1, 2, 3] [(Qlz p1), (Qly p2), (Qkz x9)] hφ0 (pc (.rn (rqr rfl)) (pc (.rn (rqr rfl)) (pc (.rn (rqr rfl)) (pc rwl (pc rwl pn))))) (qc (spb (lc rwl (lc rwl (lc rwl (lc rwl ln))))) (qc (spb (lc rwl (lc rwl (lc rwl (lc rwl ln))))) (qc (spb (lc rwl (lc rwl (lc rwl (lc rwl (lc rwl (lc rwl (lc rwl (lc rwl (lc rwl (lc rwl (lc rwl (lc rwl (lc rwl (lc rwl ln))))))))))))))) qn))))⟩
       ·replace h := Qau hb50 h
        refine wx1 tbk [(3, rp [(.tmp 80, (B ((decide (x9.1.Turbine ≥ 0)))))] (B true)), (8, rp [(.tmp 85, (B ((decide (x9.1.Air ≥ 0)))))] (B true)), (13, rp [(.tmp 90, (B ((decide (x9.1.Work ≥ 0)))))] (B false))] ⟨asb hb48 (amv rfl), asb hb49 (amv rfl), asb hb50 (amv rfl), trivial⟩ ?_
        refine thn ?_
        exact ⟨(false), h, (mto (n := 191) [(4, .ref 1 4 0 0), (5, .ref 2 4 0 0), (7, .ref 3 14 0 0), (9, I x29), (10, B false)] [1, 2, 3] [(Qlz p1), (Qly p2), (Qkz x9)] hφ0 (pc (.rn (rqr rfl)) (pc (.rn (rqr rfl)) (pc (.rn (rqr rfl)) (pc rwl (pc rwl pn))))) (qc (spb (lc rwl (lc rwl (lc rwl (lc rwl ln))))) (qc (spb (lc rwl (lc rwl (lc rwl (lc rwl ln))))) (qc (spb (lc rwl (lc rwl (lc rwl (lc rwl (lc rwl (lc rwl (lc rwl (lc rwl (lc rwl (lc rwl (lc rwl (lc rwl (lc rwl (lc rwl ln))))))))))))))) qn))))⟩
      ·replace h := Qau hb49 h
       refine wx1 tbk [(3, rp [(.tmp 80, (B ((decide (x9.1.Turbine ≥ 0)))))] (B true)), (8, rp [(.tmp 85, (B ((decide (x9.1.Air ≥ 0)))))] (B false))] ⟨asb hb48 (amv rfl), asb hb49 (amv rfl), trivial⟩ ?_
       refine thn ?_
       exact ⟨(false), h, (mto (n := 191) [(4, .ref 1 4 0 0), (5, .ref 2 4 0 0), (7, .ref 3 14 0 0), (9, I x29), (10, B false)] [1, 2, 3] [(Qlz p1), (Qly p2), (Qkz x9)] hφ0 (pc (.rn (rqr rfl)) (pc (.rn (rqr rfl)) (pc (.rn (rqr rfl)) (pc rwl (pc rwl pn))))) (qc (spb (lc rwl (lc rwl (lc rwl (lc rwl ln))))) (qc (spb (lc rwl (lc rwl (lc rwl (lc rwl ln))))) (qc (spb (lc rwl (lc rwl (lc rwl (lc rwl (lc rwl (lc rwl (lc rwl (lc rwl (lc rwl (lc rwl (lc rwl (lc rwl (lc rwl (lc rwl ln))))))))))))))) qn))))⟩
     ·replace h := Qau hb48 h
      refine wx1 tbk [(3, rp [(.tmp 80, (B ((decide (x9.1.Turbine ≥ 0)))))] (B false))] ⟨asb hb48 (amv rfl), trivial⟩ ?_
      refine thn ?_
      exact ⟨(false), h, (mto (n := 191) [(4, .ref 1 4 0 0), (5, .ref 2 4 0 0), (7, .ref 3 14 0 0), (9, I x29), (10, B false)] [1, 2, 3] [(Qlz p1), (Qly p2), (Qkz x9)] hφ0 (pc (.rn (rqr rfl)) (pc (.rn (rqr rfl)) (pc (.rn (rqr rfl)) (pc rwl (pc rwl pn))))) (qc (spb (lc rwl (lc rwl (lc rwl (lc rwl ln))))) (qc (spb (lc rwl (lc rwl (lc rwl (lc rwl ln))))) (qc (spb (lc rwl (lc rwl (lc rwl (lc rwl (lc rwl (lc rwl (lc rwl (lc rwl (lc rwl (lc rwl (lc rwl (lc rwl (lc rwl (lc rwl ln))))))))))))))) qn))))⟩
  ·skip
   obtain ⟨x56, hf55, h⟩ := bno h
   rcases bft ((!x56)) with hb57 | hb57
   ·replace h := Qat hb57 h
    refine wx tbk [(1, rp [fu 11, (.tmp 11, (Qpn p0))] (B x56)), (3, rp [(.tmp 13, (B ((!x56))))] (B true))] ⟨apc (first := []) (cap := []) (vs := [(Qpn p0)]) rfl Qxr (Qhh N (⟨p0.Table, p0.Level, (⟨p0.Unit.Inlet, p0.Unit.Parts⟩ : GUnit), p0.Most, p0.Target, (⟨p0.Cycle.Out, p0.Cycle.Yield, p0.Cycle.Most⟩ : GCycle)⟩ : GLine) _ hf55) rfl rfl (nlc (NLt.agg _ (nlc (nld Qa9 _) (nlc nll (nlc nll (nlc (nld Qaq _) (nlc nll (nlc nll (nlc nll (nlc nll (nlc nll nl0)))))))))) nl0) nll rfl, asb hb57 (amv rfl), trivial⟩ ?_
    refine Qcy (by kernel_rfl) ?_
    obtain ⟨x59, hf58, h⟩ := bno h
    refine wx tbk [(0, rp [fu 7] (B x59))] ⟨apc (first := []) (cap := []) (vs := []) rfl Qpt (Qep 2000  _ hf58) rfl rfl nl0 nll rfl, trivial⟩ ?_
    refine Qaa ?_
    refine Qan ?_
    obtain rfl := osi h
    exact fend ⟨[B x59], ⟨rot (by kernel_rfl), trivial⟩, rfl⟩ nll
   ·replace h := Qau hb57 h
    obtain ⟨x61, hf60, h⟩ := bno h
    rcases bft ((!x61)) with hb62 | hb62
    ·replace h := Qat hb62 h
     refine wx tbk [(1, rp [fu 11, (.tmp 11, (Qpn p0))] (B x56)), (3, rp [(.tmp 13, (B ((!x56))))] (B false)), (5, rp [(.tmp 14, B false), fu 12, (.tmp 15, (Qry p1))] (B x61)), (8, rp [(.tmp 18, (B ((!x61))))] (B true))] ⟨apc (first := []) (cap := []) (vs := [(Qpn p0)]) rfl Qxr (Qhh N (⟨p0.Table, p0.Level, (⟨p0.Unit.Inlet, p0.Unit.Parts⟩ : GUnit), p0.Most, p0.Target, (⟨p0.Cycle.Out, p0.Cycle.Yield, p0.Cycle.Most⟩ : GCycle)⟩ : GLine) _ hf55) rfl rfl (nlc (NLt.agg _ (nlc (nld Qa9 _) (nlc nll (nlc nll (nlc (nld Qaq _) (nlc nll (nlc nll (nlc nll (nlc nll (nlc nll nl0)))))))))) nl0) nll rfl, asb hb57 (amv rfl), ag_ (apc (first := []) (cap := []) (vs := [(Qry p1)]) rfl Qxq (Qgo N p1 _ hf60) rfl rfl (nlc (NLt.agg _ (nlc nll (nlc nll (nlc nll (nlc nll nl0))))) nl0) nll rfl), asb hb62 (amv rfl), trivial⟩ ?_
     refine Qcy (by kernel_rfl) ?_
     obtain ⟨x64, hf63, h⟩ := bno h
     refine wx tbk [(0, rp [fu 7] (B x64))] ⟨apc (first := []) (cap := []) (vs := []) rfl Qpt (Qep 2000  _ hf63) rfl rfl nl0 nll rfl, trivial⟩ ?_
     refine Qaa ?_
     refine Qan ?_
     obtain rfl := osi h
     exact fend ⟨[B x64], ⟨rot (by kernel_rfl), trivial⟩, rfl⟩ nll
    ·replace h := Qau hb62 h
     obtain ⟨x66, hf65, h⟩ := bno h
     refine wx tbk [(1, rp [fu 11, (.tmp 11, (Qpn p0))] (B x56)), (3, rp [(.tmp 13, (B ((!x56))))] (B false)), (5, rp [(.tmp 14, B false), fu 12, (.tmp 15, (Qry p1))] (B x61)), (8, rp [(.tmp 18, (B ((!x61))))] (B false)), (10, rp [(.tmp 19, B false), fu 12, (.tmp 20, (Qym p2))] (B x66))] ⟨apc (first := []) (cap := []) (vs := [(Qpn p0)]) rfl Qxr (Qhh N (⟨p0.Table, p0.Level, (⟨p0.Unit.Inlet, p0.Unit.Parts⟩ : GUnit), p0.Most, p0.Target, (⟨p0.Cycle.Out, p0.Cycle.Yield, p0.Cycle.Most⟩ : GCycle)⟩ : GLine) _ hf55) rfl rfl (nlc (NLt.agg _ (nlc (nld Qa9 _) (nlc nll (nlc nll (nlc (nld Qaq _) (nlc nll (nlc nll (nlc nll (nlc nll (nlc nll nl0)))))))))) nl0) nll rfl, asb hb57 (amv rfl), ag_ (apc (first := []) (cap := []) (vs := [(Qry p1)]) rfl Qxq (Qgo N p1 _ hf60) rfl rfl (nlc (NLt.agg _ (nlc nll (nlc nll (nlc nll (nlc nll nl0))))) nl0) nll rfl), asb hb62 (amv rfl), ag_ (apc (first := []) (cap := []) (vs := [(Qym p2)]) rfl Qxq (Qgo N p2 _ hf65) rfl rfl (nlc (NLt.agg _ (nlc nll (nlc nll (nlc nll (nlc nll nl0))))) nl0) nll rfl), trivial⟩ ?_
     rcases bft ((!x66)) with hc67 | hc67
     ·replace h := Qat hc67 h
      refine wft hc67 (by kernel_rfl) ?_
      obtain ⟨x69, hf68, h⟩ := bno h
      refine wx tbk [(0, rp [fu 7] (B x69))] ⟨apc (first := []) (cap := []) (vs := []) rfl Qpt (Qep 2000  _ hf68) rfl rfl nl0 nll rfl, trivial⟩ ?_
      refine Qaa ?_
      refine Qan ?_
      obtain rfl := osi h
      exact fend ⟨[B x69], ⟨rot (by kernel_rfl), trivial⟩, rfl⟩ nll
     ·replace h := Qau hc67 h
      refine wfn hc67 (by kernel_rfl) ?_
      refine Qam ?_
      refine thn ?_
      exact ⟨(), h, (mto (n := 191) [(3, .ref 0 9 0 0), (4, .ref 1 4 0 0), (5, .ref 2 4 0 0)] [0, 1, 2] [(Q76 p0), (Qlz p1), (Qly p2)] hφ0 (pc (.rn (rqr rfl)) (pc (.rn (rqr rfl)) (pc (.rn (rqr rfl)) pn))) (qc (spb (lc (.rn (.plain _ (nld Qa9 _))) (lc rwl (lc rwl (lc (.rn (.plain _ (nld Qaq _))) (lc rwl (lc rwl (lc rwl (lc rwl (lc rwl ln)))))))))) (qc (spb (lc rwl (lc rwl (lc rwl (lc rwl ln))))) (qc (spb (lc rwl (lc rwl (lc rwl (lc rwl ln))))) qn))))⟩
end Go.Proofs.YtlhakkkjgdbdpaaGreat
