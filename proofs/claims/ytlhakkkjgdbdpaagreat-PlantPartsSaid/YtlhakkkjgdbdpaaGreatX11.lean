/-
  Functions of the program: what they compute, as plain functions, and that they do. No conditions.
-/
import Derived.Test.YtlhakkkjgdbdpaaGreatX7
namespace Go.Proofs.YtlhakkkjgdbdpaaGreat
set_option maxRecDepth 100000
set_option maxHeartbeats 4000000
open Go.RowKit
def Qg4 (N : Nat) (p0 : GLine) (p1 : GStream) (p2 : GStream) : Option Bool :=
  Qc4 (fun _ =>
    (Qj4 N (⟨p0.Table, p0.Level, (⟨p0.Unit.Inlet, p0.Unit.Parts⟩ : GUnit), p0.Most, p0.Target, (⟨p0.Cycle.Out, p0.Cycle.Yield, p0.Cycle.Most⟩ : GCycle)⟩ : GLine)).bind fun x3 =>
    (Qga N p1).bind fun x5 =>
    (Qga N p2).bind fun x7 =>
    (Qh8 N (⟨x3.Table, x3.Level, (⟨x3.Unit.Inlet, x3.Unit.Parts⟩ : GUnit), x3.Most, x3.Target, (⟨x3.Cycle.Out, x3.Cycle.Yield, x3.Cycle.Most⟩ : GCycle)⟩ : GLine) x5 x7).bind fun x9 =>
    (Qga N p1).bind fun x11 =>
    (Qf5 N x3.Table x3.Level x11).bind fun x13 =>
    (Qg3 N (⟨x3.Unit.Inlet, x3.Unit.Parts⟩ : GUnit) (⟨x13.1.Steam.Mass, x13.1.Steam.Heat, x13.1.Steam.Silica, x13.1.Steam.Gas⟩ : GStream)).bind fun x15 =>
    bif (x13.2 != 0) then
     some false
    else
     bif (x15.2.2 != 0) then
      bif (x9.2 == x15.2.2) then
       (Qfi 2000 ).bind fun x20 =>
       some x20
      else
       some false
     else
      (Qga N p2).bind fun x22 =>
      (Qfz N (⟨x15.1.Mass, x15.1.Heat, x15.1.Silica, x15.1.Gas⟩ : GStream) x22 x3.Most).bind fun x24 =>
      bif (x24.2.2 != 0) then
       bif (x9.2 == x24.2.2) then
        (Qfi 2000 ).bind fun x28 =>
        some x28
       else
        some false
      else
       (Qgu N (⟨x24.1.Mass, x24.1.Heat, x24.1.Silica, x24.1.Gas⟩ : GStream) x3.Target).bind fun x30 =>
       (Qik N (⟨x3.Cycle.Out, x3.Cycle.Yield, x3.Cycle.Most⟩ : GCycle) (⟨x13.1.Water.Mass, x13.1.Water.Heat, x13.1.Water.Silica, x13.1.Water.Gas⟩ : GStream)).bind fun x32 =>
       bif (x9.2 == 0) then
        bif (x30.2.2 == 0) then
         bif (x32.2.2.2 == 0) then
          bif (([x9.1.Turbine, x9.1.Vent, x9.1.Air, x9.1.Work, x9.1.Sink, x9.1.Scale, x9.1.Hot.Mass, x9.1.Hot.Heat, x9.1.Hot.Silica, x9.1.Hot.Gas, x9.1.Brine.Mass, x9.1.Brine.Heat, x9.1.Brine.Silica, x9.1.Brine.Gas] : List Int) == [x15.2.1, x24.2.1, x30.2.1, x32.2.1, x32.2.2.1, x13.1.Scale, x30.1.Mass, x30.1.Heat, x30.1.Silica, x30.1.Gas, x32.1.Mass, x32.1.Heat, x32.1.Silica, x32.1.Gas]) then
           (Qfi 2000 ).bind fun x38 =>
           some x38
          else
           some false
         else
          some false
        else
         some false
       else
        some false) fun k1 : Unit → Option Bool =>
  (Qge N (⟨p0.Table, p0.Level, (⟨p0.Unit.Inlet, p0.Unit.Parts⟩ : GUnit), p0.Most, p0.Target, (⟨p0.Cycle.Out, p0.Cycle.Yield, p0.Cycle.Most⟩ : GCycle)⟩ : GLine)).bind fun x40 =>
  bif (!x40) then
   (Qfi 2000 ).bind fun x43 =>
   some x43
  else
   (Qep N p1).bind fun x45 =>
   bif (!x45) then
    (Qfi 2000 ).bind fun x48 =>
    some x48
   else
    (Qep N p2).bind fun x50 =>
    bif (!x50) then
     (Qfi 2000 ).bind fun x53 =>
     some x53
    else
     k1 ()
def Q8j (p0 : GLine) : Slot := .own 9 [[(.dat 5 ((p0.Table : List GRow).map Qa6)), (I (p0.Level)), (I (p0.Unit.Inlet)), (.dat 2 ((p0.Unit.Parts : List GPart).map Qba)), (I (p0.Most)), (I (p0.Target)), (I (p0.Cycle.Out)), (I (p0.Cycle.Yield)), (I (p0.Cycle.Most))]]
def Q8i (p1 : GStream) : Slot := .own 4 [[(I (p1.Mass)), (I (p1.Heat)), (I (p1.Silica)), (I (p1.Gas))]]
def Q8h (p2 : GStream) : Slot := .own 4 [[(I (p2.Mass)), (I (p2.Heat)), (I (p2.Silica)), (I (p2.Gas))]]
def Qpk (p0 : GLine) : AV := .agg [(.dat 5 ((p0.Table : List GRow).map Qa6)), (I (p0.Level)), (I (p0.Unit.Inlet)), (.dat 2 ((p0.Unit.Parts : List GPart).map Qba)), (I (p0.Most)), (I (p0.Target)), (I (p0.Cycle.Out)), (I (p0.Cycle.Yield)), (I (p0.Cycle.Most))]
def Q2r (x3 : GLine) : AV := .dat 5 ((x3.Table : List GRow).map Qa6)
def Q2q (x3 : GLine) : AV := .dat 2 ((x3.Unit.Parts : List GPart).map Qba)
def Qxa (x3 : GLine) : AV := .agg [(Q2r x3), (I (x3.Level)), (I (x3.Unit.Inlet)), (Q2q x3), (I (x3.Most)), (I (x3.Target)), (I (x3.Cycle.Out)), (I (x3.Cycle.Yield)), (I (x3.Cycle.Most))]
def Qpj (p1 : GStream) : AV := .agg [(I (p1.Mass)), (I (p1.Heat)), (I (p1.Silica)), (I (p1.Gas))]
def Qw9 (x5 : GStream) : AV := .agg [(I (x5.Mass)), (I (x5.Heat)), (I (x5.Silica)), (I (x5.Gas))]
def Qrt (p2 : GStream) : AV := .agg [(I (p2.Mass)), (I (p2.Heat)), (I (p2.Silica)), (I (p2.Gas))]
def Qw8 (x7 : GStream) : AV := .agg [(I (x7.Mass)), (I (x7.Heat)), (I (x7.Silica)), (I (x7.Gas))]
def Qw7 (x9 : (GAccount × Int)) : AV := .agg [(I (x9.1.Turbine)), (I (x9.1.Vent)), (I (x9.1.Air)), (I (x9.1.Work)), (I (x9.1.Sink)), (I (x9.1.Scale)), (I (x9.1.Hot.Mass)), (I (x9.1.Hot.Heat)), (I (x9.1.Hot.Silica)), (I (x9.1.Hot.Gas)), (I (x9.1.Brine.Mass)), (I (x9.1.Brine.Heat)), (I (x9.1.Brine.Silica)), (I (x9.1.Brine.Gas))]
def Qw6 (x11 : GStream) : AV := .agg [(I (x11.Mass)), (I (x11.Heat)), (I (x11.Silica)), (I (x11.Gas))]
def Q2u (x13 : (GParts × Int)) : AV := .agg [(I (x13.1.Steam.Mass)), (I (x13.1.Steam.Heat)), (I (x13.1.Steam.Silica)), (I (x13.1.Steam.Gas))]
def Qw5 (x15 : (GStream × Int × Int)) : AV := .agg [(I (x15.1.Mass)), (I (x15.1.Heat)), (I (x15.1.Silica)), (I (x15.1.Gas))]
def Qw4 (x22 : GStream) : AV := .agg [(I (x22.Mass)), (I (x22.Heat)), (I (x22.Silica)), (I (x22.Gas))]
def Qw3 (x24 : (GStream × Int × Int)) : AV := .agg [(I (x24.1.Mass)), (I (x24.1.Heat)), (I (x24.1.Silica)), (I (x24.1.Gas))]
def Qqc (x30 : (GStream × Int × Int)) : AV := .agg [(I (x30.1.Mass)), (I (x30.1.Heat)), (I (x30.1.Silica)), (I (x30.1.Gas))]
def Q2t (x3 : GLine) : AV := .agg [(I (x3.Cycle.Out)), (I (x3.Cycle.Yield)), (I (x3.Cycle.Most))]
def Q2s (x13 : (GParts × Int)) : AV := .agg [(I (x13.1.Water.Mass)), (I (x13.1.Water.Heat)), (I (x13.1.Water.Silica)), (I (x13.1.Water.Gas))]
def Qqb (x32 : (GStream × Int × Int × Int)) : AV := .agg [(I (x32.1.Mass)), (I (x32.1.Heat)), (I (x32.1.Silica)), (I (x32.1.Gas))]
def Qs3 (x15 : (GStream × Int × Int)) (x24 : (GStream × Int × Int)) (x30 : (GStream × Int × Int)) (x32 : (GStream × Int × Int × Int)) (x13 : (GParts × Int)) : AV := .agg [(I (x15.2.1)), (I (x24.2.1)), (I (x30.2.1)), (I (x32.2.1)), (I (x32.2.2.1)), (I (x13.1.Scale)), (I (x30.1.Mass)), (I (x30.1.Heat)), (I (x30.1.Silica)), (I (x30.1.Gas)), (I (x32.1.Mass)), (I (x32.1.Heat)), (I (x32.1.Silica)), (I (x32.1.Gas))]
theorem Qni (N : Nat) (p0 : GLine) (p1 : GStream) (p2 : GStream) (r : Bool) (h : Qg4 N p0 p1 p2 = some r) : Spec Tryz.prog 5 [(.agg (Qn3 p0)), (.agg (Qa4 p1)), (.agg (Qa4 p2))] [] (B r) [] := by
  refine Qac Tryz.func5 rfl 0 (nle rfl) (fun X φ0 w0 hφ0 hd0 => ?_)
  unfold Qg4 at h
  refine wx tbk [] trivial ?_
  obtain ⟨k1, hk_k1, h⟩ := jko h
  refine wjn (τ := Unit) (fun t => k1 t = some r) (fun _ => ⟨mk 142 [(3, .ref 0 9 0 0), (4, .ref 1 4 0 0), (5, .ref 2 4 0 0)], [(Q8j p0), (Q8i p1), (Q8h p2)]⟩) (fun t h => ?_) ?_
  ·subst hk_k1
   obtain ⟨x3, hf2, h⟩ := bno h
   refine wx tbk [(1, rp [fu 9, (.tmp 39, (Qpk p0))] (Qxa x3))] ⟨apc (first := []) (cap := []) (vs := [(Qpk p0)]) rfl Zep (Qrp N (⟨p0.Table, p0.Level, (⟨p0.Unit.Inlet, p0.Unit.Parts⟩ : GUnit), p0.Most, p0.Target, (⟨p0.Cycle.Out, p0.Cycle.Yield, p0.Cycle.Most⟩ : GCycle)⟩ : GLine) _ hf2) rfl rfl (nlc (NLt.agg _ (nlc (nld Qa9 _) (nlc nll (nlc nll (nlc (nld Qao _) (nlc nll (nlc nll (nlc nll (nlc nll (nlc nll nl0)))))))))) nl0) (NLt.agg _ (nlc (nld Qa9 _) (nlc nll (nlc nll (nlc (nld Qao _) (nlc nll (nlc nll (nlc nll (nlc nll (nlc nll nl0)))))))))) rfl, trivial⟩ ?_
   obtain ⟨x5, hf4, h⟩ := bno h
   obtain ⟨x7, hf6, h⟩ := bno h
   obtain ⟨x9, hf8, h⟩ := bno h
   refine wxd tbk [(2, rp [fu 10, (.tmp 43, (Qpj p1))] (Qw9 x5)), (4, rp [fu 10, (.tmp 45, (Qrt p2))] (Qw8 x7)), (5, rp [fu 8, (.tmp 42, (Qxa x3)), (.tmp 44, (Qw9 x5)), (.tmp 46, (Qw8 x7))] (.tup [(Qw7 x9), I x9.2]))] ⟨apc (first := []) (cap := []) (vs := [(Qpj p1)]) rfl Qtq (Qhg N p1 _ hf4) rfl rfl (nlc (NLt.agg _ (nlc nll (nlc nll (nlc nll (nlc nll nl0))))) nl0) (NLt.agg _ (nlc nll (nlc nll (nlc nll (nlc nll nl0))))) rfl, apc (first := []) (cap := []) (vs := [(Qrt p2)]) rfl Qtq (Qhg N p2 _ hf6) rfl rfl (nlc (NLt.agg _ (nlc nll (nlc nll (nlc nll (nlc nll nl0))))) nl0) (NLt.agg _ (nlc nll (nlc nll (nlc nll (nlc nll nl0))))) rfl, apc (first := []) (cap := []) (vs := [(Qxa x3), (Qw9 x5), (Qw8 x7)]) rfl Zeq (Qpz N (⟨x3.Table, x3.Level, (⟨x3.Unit.Inlet, x3.Unit.Parts⟩ : GUnit), x3.Most, x3.Target, (⟨x3.Cycle.Out, x3.Cycle.Yield, x3.Cycle.Most⟩ : GCycle)⟩ : GLine) x5 x7 _ hf8) rfl rfl (nlc (NLt.agg _ (nlc (nld Qa9 _) (nlc nll (nlc nll (nlc (nld Qao _) (nlc nll (nlc nll (nlc nll (nlc nll (nlc nll nl0)))))))))) (nlc (NLt.agg _ (nlc nll (nlc nll (nlc nll (nlc nll nl0))))) (nlc (NLt.agg _ (nlc nll (nlc nll (nlc nll (nlc nll nl0))))) nl0))) (NLt.tup _ (nlc (NLt.agg _ (nlc nll (nlc nll (nlc nll (nlc nll (nlc nll (nlc nll (nlc nll (nlc nll (nlc nll (nlc nll (nlc nll (nlc nll (nlc nll (nlc nll nl0))))))))))))))) (nlc nll nl0))) rfl, trivial⟩ ?_
   obtain ⟨x11, hf10, h⟩ := bno h
   obtain ⟨x13, hf12, h⟩ := bno h
   refine wxd tbk [(5, rp [fu 10, (.tmp 55, (Qpj p1))] (Qw6 x11)), (6, rp [fu 16, (.tmp 52, (Q2r x3)), (.tmp 54, I x3.Level), (.tmp 56, (Qw6 x11))] (.tup [(.agg [I x13.1.Steam.Mass, I x13.1.Steam.Heat, I x13.1.Steam.Silica, I x13.1.Steam.Gas, I x13.1.Water.Mass, I x13.1.Water.Heat, I x13.1.Water.Silica, I x13.1.Water.Gas, I x13.1.Rest, I x13.1.Scale]), I x13.2]))] ⟨apc (first := []) (cap := []) (vs := [(Qpj p1)]) rfl Qtq (Qhg N p1 _ hf10) rfl rfl (nlc (NLt.agg _ (nlc nll (nlc nll (nlc nll (nlc nll nl0))))) nl0) (NLt.agg _ (nlc nll (nlc nll (nlc nll (nlc nll nl0))))) rfl, apc (first := []) (cap := []) (vs := [(Q2r x3), I x3.Level, (Qw6 x11)]) rfl Q4v (Ql2 N x3.Table x3.Level x11 _ hf12) rfl rfl (nlc (nld Qa9 _) (nlc nll (nlc (NLt.agg _ (nlc nll (nlc nll (nlc nll (nlc nll nl0))))) nl0))) (NLt.tup _ (nlc (NLt.agg _ (nlc nll (nlc nll (nlc nll (nlc nll (nlc nll (nlc nll (nlc nll (nlc nll (nlc nll (nlc nll nl0))))))))))) (nlc nll nl0))) rfl, trivial⟩ ?_
   obtain ⟨x15, hf14, h⟩ := bno h
   refine wx tbk [(4, rp [fu 17, (.tmp 62, (.agg [I x3.Unit.Inlet, (Q2q x3)])), (.tmp 64, (Q2u x13))] (.tup [(Qw5 x15), I x15.2.1, I x15.2.2]))] ⟨apc (first := []) (cap := []) (vs := [(.agg [I x3.Unit.Inlet, (Q2q x3)]), (Q2u x13)]) rfl Q4u (Qlh N (⟨x3.Unit.Inlet, x3.Unit.Parts⟩ : GUnit) (⟨x13.1.Steam.Mass, x13.1.Steam.Heat, x13.1.Steam.Silica, x13.1.Steam.Gas⟩ : GStream) _ hf14) rfl rfl (nlc (NLt.agg _ (nlc nll (nlc (nld Qao _) nl0))) (nlc (NLt.agg _ (nlc nll (nlc nll (nlc nll (nlc nll nl0))))) nl0)) (NLt.tup _ (nlc (NLt.agg _ (nlc nll (nlc nll (nlc nll (nlc nll nl0))))) (nlc nll (nlc nll nl0)))) rfl, trivial⟩ ?_
   refine wsq ?_
   refine wx tbk [] trivial ?_
   rcases bft ((x13.2 != 0)) with hc16 | hc16
   ·replace h := Qau hc16 h
    refine wft hc16 (by kernel_rfl) ?_
    refine wx tbk [] trivial ?_
    refine Qaa ?_
    refine Qan ?_
    obtain rfl := osi h
    exact fend ⟨[B false], ⟨rot (by kernel_rfl), trivial⟩, rfl⟩ nll
   ·replace h := Qav hc16 h
    refine wfn hc16 (by kernel_rfl) ?_
    refine Qam ?_
    refine thn ?_
    refine wsq ?_
    refine wx tbk [] trivial ?_
    rcases bft ((x15.2.2 != 0)) with hc17 | hc17
    ·replace h := Qau hc17 h
     refine wft hc17 (by kernel_rfl) ?_
     rcases bft ((x9.2 == x15.2.2)) with hb18 | hb18
     ·replace h := Qau hb18 h
      obtain ⟨x20, hf19, h⟩ := bno h
      refine wx tbk [(3, rp [(.tmp 75, (B ((x9.2 == x15.2.2))))] (B true)), (4, rp [(.tmp 76, B true), fu 7] (B x20))] ⟨asb hb18 (amv rfl), ag_ (apc (first := []) (cap := []) (vs := []) rfl Qse (Qf1 2000  _ hf19) rfl rfl nl0 nll rfl), trivial⟩ ?_
      refine Qaa ?_
      refine Qan ?_
      obtain rfl := osi h
      exact fend ⟨[B x20], ⟨rot (by kernel_rfl), trivial⟩, rfl⟩ nll
     ·replace h := Qav hb18 h
      refine wx tbk [(3, rp [(.tmp 75, (B ((x9.2 == x15.2.2))))] (B false))] ⟨asb hb18 (amv rfl), trivial⟩ ?_
      refine Qaa ?_
      refine Qan ?_
      obtain rfl := osi h
      exact fend ⟨[B false], ⟨rot (by kernel_rfl), trivial⟩, rfl⟩ nll
    ·replace h := Qav hc17 h
     refine wfn hc17 (by kernel_rfl) ?_
     refine Qam ?_
     refine thn ?_
     obtain ⟨x22, hf21, h⟩ := bno h
     obtain ⟨x24, hf23, h⟩ := bno h
     refine wxd tbk [(2, rp [fu 10, (.tmp 81, (Qrt p2))] (Qw4 x22)), (5, rp [fu 18, (.tmp 80, (Qw5 x15)), (.tmp 82, (Qw4 x22)), (.tmp 84, I x3.Most)] (.tup [(Qw3 x24), I x24.2.1, I x24.2.2]))] ⟨apc (first := []) (cap := []) (vs := [(Qrt p2)]) rfl Qtq (Qhg N p2 _ hf21) rfl rfl (nlc (NLt.agg _ (nlc nll (nlc nll (nlc nll (nlc nll nl0))))) nl0) (NLt.agg _ (nlc nll (nlc nll (nlc nll (nlc nll nl0))))) rfl, apc (first := []) (cap := []) (vs := [(Qw5 x15), (Qw4 x22), I x3.Most]) rfl Q4t (Qkd N (⟨x15.1.Mass, x15.1.Heat, x15.1.Silica, x15.1.Gas⟩ : GStream) x22 x3.Most _ hf23) rfl rfl (nlc (NLt.agg _ (nlc nll (nlc nll (nlc nll (nlc nll nl0))))) (nlc (NLt.agg _ (nlc nll (nlc nll (nlc nll (nlc nll nl0))))) (nlc nll nl0))) (NLt.tup _ (nlc (NLt.agg _ (nlc nll (nlc nll (nlc nll (nlc nll nl0))))) (nlc nll (nlc nll nl0)))) rfl, trivial⟩ ?_
     refine wsq ?_
     refine wx tbk [] trivial ?_
     rcases bft ((x24.2.2 != 0)) with hc25 | hc25
     ·replace h := Qau hc25 h
      refine wft hc25 (by kernel_rfl) ?_
      rcases bft ((x9.2 == x24.2.2)) with hb26 | hb26
      ·replace h := Qau hb26 h
       obtain ⟨x28, hf27, h⟩ := bno h
       refine wx tbk [(3, rp [(.tmp 93, (B ((x9.2 == x24.2.2))))] (B true)), (4, rp [(.tmp 94, B true), fu 7] (B x28))] ⟨asb hb26 (amv rfl), ag_ (apc (first := []) (cap := []) (vs := []) rfl Qse (Qf1 2000  _ hf27) rfl rfl nl0 nll rfl), trivial⟩ ?_
       refine Qaa ?_
       refine Qan ?_
       obtain rfl := osi h
       exact fend ⟨[B x28], ⟨rot (by kernel_rfl), trivial⟩, rfl⟩ nll
      ·replace h := Qav hb26 h
       refine wx tbk [(3, rp [(.tmp 93, (B ((x9.2 == x24.2.2))))] (B false))] ⟨asb hb26 (amv rfl), trivial⟩ ?_
       refine Qaa ?_
       refine Qan ?_
       obtain rfl := osi h
       exact fend ⟨[B false], ⟨rot (by kernel_rfl), trivial⟩, rfl⟩ nll
     ·replace h := Qav hc25 h
      refine wfn hc25 (by kernel_rfl) ?_
      refine Qam ?_
      refine thn ?_
      obtain ⟨x30, hf29, h⟩ := bno h
      refine wx tbk [(3, rp [fu 19, (.tmp 98, (Qw3 x24)), (.tmp 100, I x3.Target)] (.tup [(Qqc x30), I x30.2.1, I x30.2.2]))] ⟨apc (first := []) (cap := []) (vs := [(Qw3 x24), I x3.Target]) rfl Q4s (Qma N (⟨x24.1.Mass, x24.1.Heat, x24.1.Silica, x24.1.Gas⟩ : GStream) x3.Target _ hf29) rfl rfl (nlc (NLt.agg _ (nlc nll (nlc nll (nlc nll (nlc nll nl0))))) (nlc nll nl0)) (NLt.tup _ (nlc (NLt.agg _ (nlc nll (nlc nll (nlc nll (nlc nll nl0))))) (nlc nll (nlc nll nl0)))) rfl, trivial⟩ ?_
      obtain ⟨x32, hf31, h⟩ := bno h
      refine wx tbk [(4, rp [fu 20, (.tmp 107, (Q2t x3)), (.tmp 109, (Q2s x13))] (.tup [(Qqb x32), I x32.2.1, I x32.2.2.1, I x32.2.2.2]))] ⟨apc (first := []) (cap := []) (vs := [(Q2t x3), (Q2s x13)]) rfl Qxq (Qk5 N (⟨x3.Cycle.Out, x3.Cycle.Yield, x3.Cycle.Most⟩ : GCycle) (⟨x13.1.Water.Mass, x13.1.Water.Heat, x13.1.Water.Silica, x13.1.Water.Gas⟩ : GStream) _ hf31) rfl rfl (nlc (NLt.agg _ (nlc nll (nlc nll (nlc nll nl0)))) (nlc (NLt.agg _ (nlc nll (nlc nll (nlc nll (nlc nll nl0))))) nl0)) (NLt.tup _ (nlc (NLt.agg _ (nlc nll (nlc nll (nlc nll (nlc nll nl0))))) (nlc nll (nlc nll (nlc nll nl0))))) rfl, trivial⟩ ?_
      rcases bft ((x9.2 == 0)) with hb33 | hb33
      ·replace h := Qau hb33 h
       rcases bft ((x30.2.2 == 0)) with hb34 | hb34
       ·replace h := Qau hb34 h
        rcases bft ((x32.2.2.2 == 0)) with hb35 | hb35
        ·replace h := Qau hb35 h
         rcases bft ((([x9.1.Turbine, x9.1.Vent, x9.1.Air, x9.1.Work, x9.1.Sink, x9.1.Scale, x9.1.Hot.Mass, x9.1.Hot.Heat, x9.1.Hot.Silica, x9.1.Hot.Gas, x9.1.Brine.Mass, x9.1.Brine.Heat, x9.1.Brine.Silica, x9.1.Brine.Gas] : List Int) == [x15.2.1, x24.2.1, x30.2.1, x32.2.1, x32.2.2.1, x13.1.Scale, x30.1.Mass, x30.1.Heat, x30.1.Silica, x30.1.Gas, x32.1.Mass, x32.1.Heat, x32.1.Silica, x32.1.Gas])) with hb36 | hb36
         ·replace h := Qau hb36 h
          obtain ⟨x38, hf37, h⟩ := bno h
          refine wx tbk [(2, rp [(.tmp 116, (B ((x9.2 == 0))))] (B true)), (6, rp [(.tmp 120, (B ((x30.2.2 == 0))))] (B true)), (10, rp [(.tmp 124, (B ((x32.2.2.2 == 0))))] (B true)), (21, rp [(.tmp 125, B true), (.tmp 127, I x15.2.1), (.tmp 128, I x24.2.1), (.tmp 129, I x30.2.1), (.tmp 130, I x32.2.1), (.tmp 131, I x32.2.2.1), (.tmp 133, I x13.1.Scale), (.tmp 134, (Qqc x30)), (.tmp 135, (Qqb x32))] (Qs3 x15 x24 x30 x32 x13)), (22, rp [(.tmp 125, B true), (.tmp 126, (Qw7 x9)), (.tmp 136, (Qs3 x15 x24 x30 x32 x13))] (B ((([x9.1.Turbine, x9.1.Vent, x9.1.Air, x9.1.Work, x9.1.Sink, x9.1.Scale, x9.1.Hot.Mass, x9.1.Hot.Heat, x9.1.Hot.Silica, x9.1.Hot.Gas, x9.1.Brine.Mass, x9.1.Brine.Heat, x9.1.Brine.Silica, x9.1.Brine.Gas] : List Int) == [x15.2.1, x24.2.1, x30.2.1, x32.2.1, x32.2.2.1, x13.1.Scale, x30.1.Mass, x30.1.Heat, x30.1.Silica, x30.1.Gas, x32.1.Mass, x32.1.Heat, x32.1.Silica, x32.1.Gas])))), (24, rp [(.tmp 138, (B ((([x9.1.Turbine, x9.1.Vent, x9.1.Air, x9.1.Work, x9.1.Sink, x9.1.Scale, x9.1.Hot.Mass, x9.1.Hot.Heat, x9.1.Hot.Silica, x9.1.Hot.Gas, x9.1.Brine.Mass, x9.1.Brine.Heat, x9.1.Brine.Silica, x9.1.Brine.Gas] : List Int) == [x15.2.1, x24.2.1, x30.2.1, x32.2.1, x32.2.2.1, x13.1.Scale, x30.1.Mass, x30.1.Heat, x30.1.Silica, x30.1.Gas, x32.1.Mass, x32.1.Heat, x32.1.Silica, x32.1.Gas]))))] (B true)), (25, rp [(.tmp 139, B true), fu 7] (B x38))] ⟨asb hb33 (amv rfl), asb hb34 (amv rfl), asb hb35 (amv rfl), ag_ (Qas (vs := [I x15.2.1, I x24.2.1, I x30.2.1, I x32.2.1, I x32.2.2.1, I x13.1.Scale, (Qqc x30), (Qqb x32)]) rfl ts37 tz37 rfl (by rfl) rfl), ag_ (Qgx (ls := [x9.1.Turbine, x9.1.Vent, x9.1.Air, x9.1.Work, x9.1.Sink, x9.1.Scale, x9.1.Hot.Mass, x9.1.Hot.Heat, x9.1.Hot.Silica, x9.1.Hot.Gas, x9.1.Brine.Mass, x9.1.Brine.Heat, x9.1.Brine.Silica, x9.1.Brine.Gas]) (ks := [x15.2.1, x24.2.1, x30.2.1, x32.2.1, x32.2.2.1, x13.1.Scale, x30.1.Mass, x30.1.Heat, x30.1.Silica, x30.1.Gas, x32.1.Mass, x32.1.Heat, x32.1.Silica, x32.1.Gas]) rfl rfl Zeo (by kernel_rfl) rfl rfl), asb hb36 (amv rfl), ag_ (apc (first := []) (cap := []) (vs := []) rfl Qse (Qf1 2000  _ hf37) rfl rfl nl0 nll rfl), trivial⟩ ?_
          refine Qaa ?_
          obtain rfl := osi h
          exact fend ⟨[B x38], ⟨rot (by kernel_rfl), trivial⟩, rfl⟩ nll
         ·replace h := Qav hb36 h
          refine wx tbk [(2, rp [(.tmp 116, (B ((x9.2 == 0))))] (B true)), (6, rp [(.tmp 120, (B ((x30.2.2 == 0))))] (B true)), (10, rp [(.tmp 124, (B ((x32.2.2.2 == 0))))] (B true)), (21, rp [(.tmp 125, B true), (.tmp 127, I x15.2.1), (.tmp 128, I x24.2.1), (.tmp 129, I x30.2.1), (.tmp 130, I x32.2.1), (.tmp 131, I x32.2.2.1), (.tmp 133, I x13.1.Scale), (.tmp 134, (Qqc x30)), (.tmp 135, (Qqb x32))] (Qs3 x15 x24 x30 x32 x13)), (22, rp [(.tmp 125, B true), (.tmp 126, (Qw7 x9)), (.tmp 136, (Qs3 x15 x24 x30 x32 x13))] (B ((([x9.1.Turbine, x9.1.Vent, x9.1.Air, x9.1.Work, x9.1.Sink, x9.1.Scale, x9.1.Hot.Mass, x9.1.Hot.Heat, x9.1.Hot.Silica, x9.1.Hot.Gas, x9.1.Brine.Mass, x9.1.Brine.Heat, x9.1.Brine.Silica, x9.1.Brine.Gas] : List Int) == [x15.2.1, x24.2.1, x30.2.1, x32.2.1, x32.2.2.1, x13.1.Scale, x30.1.Mass, x30.1.Heat, x30.1.Silica, x30.1.Gas, x32.1.Mass, x32.1.Heat, x32.1.Silica, x32.1.Gas])))), (24, rp [(.tmp 138, (B ((([x9.1.Turbine, x9.1.Vent, x9.1.Air, x9.1.Work, x9.1.Sink, x9.1.Scale, x9.1.Hot.Mass, x9.1.Hot.Heat, x9.1.Hot.Silica, x9.1.Hot.Gas, x9.1.Brine.Mass, x9.1.Brine.Heat, x9.1.Brine.Silica, x9.1.Brine.Gas] : List Int) == [x15.2.1, x24.2.1, x30.2.1, x32.2.1, x32.2.2.1, x13.1.Scale, x30.1.Mass, x30.1.Heat, x30.1.Silica, x30.1.Gas, x32.1.Mass, x32.1.Heat, x32.1.Silica, x32.1.Gas]))))] (B false))] ⟨asb hb33 (amv rfl), asb hb34 (amv rfl), asb hb35 (amv rfl), ag_ (Qas (vs := [I x15.2.1, I x24.2.1, I x30.2.1, I x32.2.1, I x32.2.2.1, I x13.1.Scale, (Qqc x30), (Qqb x32)]) rfl ts37 tz37 rfl (by rfl) rfl), ag_ (Qgx (ls := [x9.1.Turbine, x9.1.Vent, x9.1.Air, x9.1.Work, x9.1.Sink, x9.1.Scale, x9.1.Hot.Mass, x9.1.Hot.Heat, x9.1.Hot.Silica, x9.1.Hot.Gas, x9.1.Brine.Mass, x9.1.Brine.Heat, x9.1.Brine.Silica, x9.1.Brine.Gas]) (ks := [x15.2.1, x24.2.1, x30.2.1, x32.2.1, x32.2.2.1, x13.1.Scale, x30.1.Mass, x30.1.Heat, x30.1.Silica, x30.1.Gas, x32.1.Mass, x32.1.Heat, x32.1.Silica, x32.1.Gas]) rfl rfl Zeo (by kernel_rfl) rfl rfl), asb hb36 (amv rfl), trivial⟩ ?_
          refine Qaa ?_
          obtain rfl := osi h
          exact fend ⟨[B false], ⟨rot (by kernel_rfl), trivial⟩, rfl⟩ nll
        ·replace h := Qav hb35 h
         refine wx tbk [(2, rp [(.tmp 116, (B ((x9.2 == 0))))] (B true)), (6, rp [(.tmp 120, (B ((x30.2.2 == 0))))] (B true)), (10, rp [(.tmp 124, (B ((x32.2.2.2 == 0))))] (B false))] ⟨asb hb33 (amv rfl), asb hb34 (amv rfl), asb hb35 (amv rfl), trivial⟩ ?_
         refine Qaa ?_
         obtain rfl := osi h
         exact fend ⟨[B false], ⟨rot (by kernel_rfl), trivial⟩, rfl⟩ nll
       ·replace h := Qav hb34 h
        refine wx tbk [(2, rp [(.tmp 116, (B ((x9.2 == 0))))] (B true)), (6, rp [(.tmp 120, (B ((x30.2.2 == 0))))] (B false))] ⟨asb hb33 (amv rfl), asb hb34 (amv rfl), trivial⟩ ?_
        refine Qaa ?_
        obtain rfl := osi h
        exact fend ⟨[B false], ⟨rot (by kernel_rfl), trivial⟩, rfl⟩ nll
      ·replace h := Qav hb33 h
       refine wx tbk [(2, rp [(.tmp 116, (B ((x9.2 == 0))))] (B false))] ⟨asb hb33 (amv rfl), trivial⟩ ?_
       refine Qaa ?_
       obtain rfl := osi h
       exact fend ⟨[B false], ⟨rot (by kernel_rfl), trivial⟩, rfl⟩ nll
  ·skip
   obtain ⟨x40, hf39, h⟩ := bno h
   rcases bft ((!x40)) with hb41 | hb41
   ·replace h := Qau hb41 h
    refine wx tbk [(1, rp [fu 11, (.tmp 25, (Qpk p0))] (B x40)), (3, rp [(.tmp 27, (B ((!x40))))] (B true))] ⟨apc (first := []) (cap := []) (vs := [(Qpk p0)]) rfl Qxs (Qhk N (⟨p0.Table, p0.Level, (⟨p0.Unit.Inlet, p0.Unit.Parts⟩ : GUnit), p0.Most, p0.Target, (⟨p0.Cycle.Out, p0.Cycle.Yield, p0.Cycle.Most⟩ : GCycle)⟩ : GLine) _ hf39) rfl rfl (nlc (NLt.agg _ (nlc (nld Qa9 _) (nlc nll (nlc nll (nlc (nld Qao _) (nlc nll (nlc nll (nlc nll (nlc nll (nlc nll nl0)))))))))) nl0) nll rfl, asb hb41 (amv rfl), trivial⟩ ?_
    refine Qcx (by kernel_rfl) ?_
    obtain ⟨x43, hf42, h⟩ := bno h
    refine wx tbk [(0, rp [fu 7] (B x43))] ⟨apc (first := []) (cap := []) (vs := []) rfl Qse (Qf1 2000  _ hf42) rfl rfl nl0 nll rfl, trivial⟩ ?_
    refine Qaa ?_
    refine Qan ?_
    obtain rfl := osi h
    exact fend ⟨[B x43], ⟨rot (by kernel_rfl), trivial⟩, rfl⟩ nll
   ·replace h := Qav hb41 h
    obtain ⟨x45, hf44, h⟩ := bno h
    rcases bft ((!x45)) with hb46 | hb46
    ·replace h := Qau hb46 h
     refine wx tbk [(1, rp [fu 11, (.tmp 25, (Qpk p0))] (B x40)), (3, rp [(.tmp 27, (B ((!x40))))] (B false)), (5, rp [(.tmp 28, B false), fu 12, (.tmp 29, (Qpj p1))] (B x45)), (8, rp [(.tmp 32, (B ((!x45))))] (B true))] ⟨apc (first := []) (cap := []) (vs := [(Qpk p0)]) rfl Qxs (Qhk N (⟨p0.Table, p0.Level, (⟨p0.Unit.Inlet, p0.Unit.Parts⟩ : GUnit), p0.Most, p0.Target, (⟨p0.Cycle.Out, p0.Cycle.Yield, p0.Cycle.Most⟩ : GCycle)⟩ : GLine) _ hf39) rfl rfl (nlc (NLt.agg _ (nlc (nld Qa9 _) (nlc nll (nlc nll (nlc (nld Qao _) (nlc nll (nlc nll (nlc nll (nlc nll (nlc nll nl0)))))))))) nl0) nll rfl, asb hb41 (amv rfl), ag_ (apc (first := []) (cap := []) (vs := [(Qpj p1)]) rfl Qxr (Qgp N p1 _ hf44) rfl rfl (nlc (NLt.agg _ (nlc nll (nlc nll (nlc nll (nlc nll nl0))))) nl0) nll rfl), asb hb46 (amv rfl), trivial⟩ ?_
     refine Qcx (by kernel_rfl) ?_
     obtain ⟨x48, hf47, h⟩ := bno h
     refine wx tbk [(0, rp [fu 7] (B x48))] ⟨apc (first := []) (cap := []) (vs := []) rfl Qse (Qf1 2000  _ hf47) rfl rfl nl0 nll rfl, trivial⟩ ?_
     refine Qaa ?_
     refine Qan ?_
     obtain rfl := osi h
     exact fend ⟨[B x48], ⟨rot (by kernel_rfl), trivial⟩, rfl⟩ nll
    ·replace h := Qav hb46 h
     obtain ⟨x50, hf49, h⟩ := bno h
     refine wx tbk [(1, rp [fu 11, (.tmp 25, (Qpk p0))] (B x40)), (3, rp [(.tmp 27, (B ((!x40))))] (B false)), (5, rp [(.tmp 28, B false), fu 12, (.tmp 29, (Qpj p1))] (B x45)), (8, rp [(.tmp 32, (B ((!x45))))] (B false)), (10, rp [(.tmp 33, B false), fu 12, (.tmp 34, (Qrt p2))] (B x50))] ⟨apc (first := []) (cap := []) (vs := [(Qpk p0)]) rfl Qxs (Qhk N (⟨p0.Table, p0.Level, (⟨p0.Unit.Inlet, p0.Unit.Parts⟩ : GUnit), p0.Most, p0.Target, (⟨p0.Cycle.Out, p0.Cycle.Yield, p0.Cycle.Most⟩ : GCycle)⟩ : GLine) _ hf39) rfl rfl (nlc (NLt.agg _ (nlc (nld Qa9 _) (nlc nll (nlc nll (nlc (nld Qao _) (nlc nll (nlc nll (nlc nll (nlc nll (nlc nll nl0)))))))))) nl0) nll rfl, asb hb41 (amv rfl), ag_ (apc (first := []) (cap := []) (vs := [(Qpj p1)]) rfl Qxr (Qgp N p1 _ hf44) rfl rfl (nlc (NLt.agg _ (nlc nll (nlc nll (nlc nll (nlc nll nl0))))) nl0) nll rfl), asb hb46 (amv rfl), ag_ (apc (first := []) (cap := []) (vs := [(Qrt p2)]) rfl Qxr (Qgp N p2 _ hf49) rfl rfl (nlc (NLt.agg _ (nlc nll (nlc nll (nlc nll (nlc nll nl0))))) nl0) nll rfl), trivial⟩ ?_
     rcases bft ((!x50)) with hc51 | hc51
     ·replace h := Qau hc51 h
      refine wft hc51 (by kernel_rfl) ?_
      obtain ⟨x53, hf52, h⟩ := bno h
      refine wx tbk [(0, rp [fu 7] (B x53))] ⟨apc (first := []) (cap := []) (vs := []) rfl Qse (Qf1 2000  _ hf52) rfl rfl nl0 nll rfl, trivial⟩ ?_
      refine Qaa ?_
      refine Qan ?_
      obtain rfl := osi h
      exact fend ⟨[B x53], ⟨rot (by kernel_rfl), trivial⟩, rfl⟩ nll
     ·replace h := Qav hc51 h
      refine wfn hc51 (by kernel_rfl) ?_
      refine Qam ?_
      refine thn ?_
      exact ⟨(), h, (mto (n := 142) [(3, .ref 0 9 0 0), (4, .ref 1 4 0 0), (5, .ref 2 4 0 0)] [0, 1, 2] [(Q8j p0), (Q8i p1), (Q8h p2)] hφ0 (pc (.rn (rqr rfl)) (pc (.rn (rqr rfl)) (pc (.rn (rqr rfl)) pn))) (qc (spb (lc (.rn (.plain _ (nld Qa9 _))) (lc rwl (lc rwl (lc (.rn (.plain _ (nld Qao _))) (lc rwl (lc rwl (lc rwl (lc rwl (lc rwl ln)))))))))) (qc (spb (lc rwl (lc rwl (lc rwl (lc rwl ln))))) (qc (spb (lc rwl (lc rwl (lc rwl (lc rwl ln))))) qn))))⟩
end Go.Proofs.YtlhakkkjgdbdpaaGreat
