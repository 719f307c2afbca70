/-
  Functions of the program: what they compute, as plain functions, and that they do. No conditions.
-/
import Derived.Test.YtlhakkkjgdbdpaaGreatX8
namespace Go.Proofs.YtlhakkkjgdbdpaaGreat
set_option maxRecDepth 100000
set_option maxHeartbeats 4000000
open Go.RowKit
def Qku (_N : Nat) (p0 : GUnit) : Option Bool :=
  some (decide ((p0.Parts.length : Int) ≤ 10))
def Zgc (p0 : GUnit) : AV := .dat 2 ((p0.Parts : List GPart).map Qa4)
theorem Qru (N : Nat) (p0 : GUnit) (r : Bool) (h : Qku N p0 = some r) : Spec Tryz.prog 6 [(.agg (Qcd p0))] [] (B r) [] := by
  refine Qab Tryz.func6 rfl 0 (nle rfl) (fun X φ0 w0 hφ0 hd0 => ?_)
  unfold Qku at h
  refine wx tbk [] trivial ?_
  refine wx tbk [(2, rp [(.tmp 4, (Zgc p0))] (I ((p0.Parts.length : Int))))] ⟨alm (c := Qa4) (l := p0.Parts) (aln rfl Tryz.underlying24 rfl), trivial⟩ ?_
  refine Qaa ?_
  obtain rfl := osi h
  exact fend ⟨[(B ((decide ((p0.Parts.length : Int) ≤ 10))))], ⟨rot (by kernel_rfl), trivial⟩, rfl⟩ nll
def Qgd (N : Nat) (p0 : GLine) (p1 : GStream) (p2 : GStream) : Option Bool :=
  Qck (fun _ =>
    (Qkh N (⟨p0.Table, p0.Level, (⟨p0.Unit.Inlet, p0.Unit.Parts⟩ : GUnit), p0.Most, p0.Target, (⟨p0.Cycle.Out, p0.Cycle.Yield, p0.Cycle.Most⟩ : GCycle)⟩ : GLine)).bind fun x3 =>
    (Qfn N p1).bind fun x5 =>
    (Qfn N p2).bind fun x7 =>
    (Qif N (⟨x3.Table, x3.Level, (⟨x3.Unit.Inlet, x3.Unit.Parts⟩ : GUnit), x3.Most, x3.Target, (⟨x3.Cycle.Out, x3.Cycle.Yield, x3.Cycle.Most⟩ : GCycle)⟩ : GLine) x5 x7).bind fun x9 =>
    Qck (fun _ =>
      (Qh5 N (⟨p0.Table, p0.Level, (⟨p0.Unit.Inlet, p0.Unit.Parts⟩ : GUnit), p0.Most, p0.Target, (⟨p0.Cycle.Out, p0.Cycle.Yield, p0.Cycle.Most⟩ : GCycle)⟩ : GLine) p1 p2).bind fun x12 =>
      bif (x9.2 == x12.2) then
       (Qiz N (⟨x12.1.Turbine, x12.1.Vent, x12.1.Air, x12.1.Work, x12.1.Sink, x12.1.Scale, (⟨x12.1.Hot.Mass, x12.1.Hot.Heat, x12.1.Hot.Silica, x12.1.Hot.Gas⟩ : GStream), (⟨x12.1.Brine.Mass, x12.1.Brine.Heat, x12.1.Brine.Silica, x12.1.Brine.Gas⟩ : GStream)⟩ : GAccount)).bind fun x15 =>
       bif (([x9.1.Turbine, x9.1.Vent, x9.1.Air, x9.1.Work, x9.1.Sink, x9.1.Scale, x9.1.Hot.Mass, x9.1.Hot.Heat, x9.1.Hot.Silica, x9.1.Hot.Gas, x9.1.Brine.Mass, x9.1.Brine.Heat, x9.1.Brine.Silica, x9.1.Brine.Gas] : List Int) == [x15.Turbine, x15.Vent, x15.Air, x15.Work, x15.Sink, x15.Scale, x15.Hot.Mass, x15.Hot.Heat, x15.Hot.Silica, x15.Hot.Gas, x15.Brine.Mass, x15.Brine.Heat, x15.Brine.Silica, x15.Brine.Gas]) then
        (Qfm 2000 ).bind fun x18 =>
        some x18
       else
        some false
      else
       some false) fun k10 : Unit → Option Bool =>
    (Qgh N (⟨p0.Table, p0.Level, (⟨p0.Unit.Inlet, p0.Unit.Parts⟩ : GUnit), p0.Most, p0.Target, (⟨p0.Cycle.Out, p0.Cycle.Yield, p0.Cycle.Most⟩ : GCycle)⟩ : GLine)).bind fun x20 =>
    bif (!x20) then
     bif (x9.2 == 1) then
      bif (([x9.1.Turbine, x9.1.Vent, x9.1.Air, x9.1.Work, x9.1.Sink, x9.1.Scale, x9.1.Hot.Mass, x9.1.Hot.Heat, x9.1.Hot.Silica, x9.1.Hot.Gas, x9.1.Brine.Mass, x9.1.Brine.Heat, x9.1.Brine.Silica, x9.1.Brine.Gas] : List Int) == [0, 0, 0, 0, 0, 0, 0, 0, 0, 0, 0, 0, 0, 0]) then
       (Qfm 2000 ).bind fun x25 =>
       some x25
      else
       some false
     else
      some false
    else
     (Qeu N p1).bind fun x27 =>
     bif (!x27) then
      bif (x9.2 == 1) then
       bif (([x9.1.Turbine, x9.1.Vent, x9.1.Air, x9.1.Work, x9.1.Sink, x9.1.Scale, x9.1.Hot.Mass, x9.1.Hot.Heat, x9.1.Hot.Silica, x9.1.Hot.Gas, x9.1.Brine.Mass, x9.1.Brine.Heat, x9.1.Brine.Silica, x9.1.Brine.Gas] : List Int) == [0, 0, 0, 0, 0, 0, 0, 0, 0, 0, 0, 0, 0, 0]) then
        (Qfm 2000 ).bind fun x32 =>
        some x32
       else
        some false
      else
       some false
     else
      (Qeu N p2).bind fun x34 =>
      bif (!x34) then
       bif (x9.2 == 1) then
        bif (([x9.1.Turbine, x9.1.Vent, x9.1.Air, x9.1.Work, x9.1.Sink, x9.1.Scale, x9.1.Hot.Mass, x9.1.Hot.Heat, x9.1.Hot.Silica, x9.1.Hot.Gas, x9.1.Brine.Mass, x9.1.Brine.Heat, x9.1.Brine.Silica, x9.1.Brine.Gas] : List Int) == [0, 0, 0, 0, 0, 0, 0, 0, 0, 0, 0, 0, 0, 0]) then
         (Qfm 2000 ).bind fun x39 =>
         some x39
        else
         some false
       else
        some false
      else
       k10 ()) fun k1 : Unit → Option Bool =>
  bif (decide ((p0.Table.length : Int) > 30)) then
   (Qfm 2000 ).bind fun x42 =>
   some x42
  else
   (Qku N (⟨p0.Unit.Inlet, p0.Unit.Parts⟩ : GUnit)).bind fun x44 =>
   bif (!x44) then
    (Qfm 2000 ).bind fun x47 =>
    some x47
   else
    k1 ()
def Qzt (p0 : GLine) : AV := .dat 5 ((p0.Table : List GRow).map Qa6)
def Qzs (p0 : GLine) : AV := .dat 2 ((p0.Unit.Parts : List GPart).map Qa4)
def Qzr (p0 : GLine) : Slot := .own 9 [[(Qzt p0), (I (p0.Level)), (I (p0.Unit.Inlet)), (Qzs p0), (I (p0.Most)), (I (p0.Target)), (I (p0.Cycle.Out)), (I (p0.Cycle.Yield)), (I (p0.Cycle.Most))]]
def Qzq (p1 : GStream) : Slot := .own 4 [[(I (p1.Mass)), (I (p1.Heat)), (I (p1.Silica)), (I (p1.Gas))]]
def Qzp (p2 : GStream) : Slot := .own 4 [[(I (p2.Mass)), (I (p2.Heat)), (I (p2.Silica)), (I (p2.Gas))]]
def Qn1 (p0 : GLine) : AV := .agg [(Qzt p0), (I (p0.Level)), (I (p0.Unit.Inlet)), (Qzs p0), (I (p0.Most)), (I (p0.Target)), (I (p0.Cycle.Out)), (I (p0.Cycle.Yield)), (I (p0.Cycle.Most))]
def Qx8 (x3 : GLine) : AV := .agg [(.dat 5 ((x3.Table : List GRow).map Qa6)), (I (x3.Level)), (I (x3.Unit.Inlet)), (.dat 2 ((x3.Unit.Parts : List GPart).map Qa4)), (I (x3.Most)), (I (x3.Target)), (I (x3.Cycle.Out)), (I (x3.Cycle.Yield)), (I (x3.Cycle.Most))]
def Qqa (p1 : GStream) : AV := .agg [(I (p1.Mass)), (I (p1.Heat)), (I (p1.Silica)), (I (p1.Gas))]
def Qx7 (x5 : GStream) : AV := .agg [(I (x5.Mass)), (I (x5.Heat)), (I (x5.Silica)), (I (x5.Gas))]
def Qsp (p2 : GStream) : AV := .agg [(I (p2.Mass)), (I (p2.Heat)), (I (p2.Silica)), (I (p2.Gas))]
def Qx6 (x7 : GStream) : AV := .agg [(I (x7.Mass)), (I (x7.Heat)), (I (x7.Silica)), (I (x7.Gas))]
def Qlk (x9 : (GAccount × Int)) : AV := .agg [(I (x9.1.Turbine)), (I (x9.1.Vent)), (I (x9.1.Air)), (I (x9.1.Work)), (I (x9.1.Sink)), (I (x9.1.Scale)), (I (x9.1.Hot.Mass)), (I (x9.1.Hot.Heat)), (I (x9.1.Hot.Silica)), (I (x9.1.Hot.Gas)), (I (x9.1.Brine.Mass)), (I (x9.1.Brine.Heat)), (I (x9.1.Brine.Silica)), (I (x9.1.Brine.Gas))]
def Q3z (x9 : (GAccount × Int)) : Slot := .own 14 [[(I (x9.1.Turbine)), (I (x9.1.Vent)), (I (x9.1.Air)), (I (x9.1.Work)), (I (x9.1.Sink)), (I (x9.1.Scale)), (I (x9.1.Hot.Mass)), (I (x9.1.Hot.Heat)), (I (x9.1.Hot.Silica)), (I (x9.1.Hot.Gas)), (I (x9.1.Brine.Mass)), (I (x9.1.Brine.Heat)), (I (x9.1.Brine.Silica)), (I (x9.1.Brine.Gas))]]
def Qq3 (x12 : (GAccount × Int)) : AV := .agg [(I (x12.1.Turbine)), (I (x12.1.Vent)), (I (x12.1.Air)), (I (x12.1.Work)), (I (x12.1.Sink)), (I (x12.1.Scale)), (I (x12.1.Hot.Mass)), (I (x12.1.Hot.Heat)), (I (x12.1.Hot.Silica)), (I (x12.1.Hot.Gas)), (I (x12.1.Brine.Mass)), (I (x12.1.Brine.Heat)), (I (x12.1.Brine.Silica)), (I (x12.1.Brine.Gas))]
def Qt0 (x15 : GAccount) : AV := .agg [(I (x15.Turbine)), (I (x15.Vent)), (I (x15.Air)), (I (x15.Work)), (I (x15.Sink)), (I (x15.Scale)), (I (x15.Hot.Mass)), (I (x15.Hot.Heat)), (I (x15.Hot.Silica)), (I (x15.Hot.Gas)), (I (x15.Brine.Mass)), (I (x15.Brine.Heat)), (I (x15.Brine.Silica)), (I (x15.Brine.Gas))]
def Qjl : AV := .agg [(I (0)), (I (0)), (I (0)), (I (0)), (I (0)), (I (0)), (I (0)), (I (0)), (I (0)), (I (0)), (I (0)), (I (0)), (I (0)), (I (0))]
theorem Ql9 (N : Nat) (p0 : GLine) (p1 : GStream) (p2 : GStream) (r : Bool) (h : Qgd N p0 p1 p2 = some r) : Spec Tryz.prog 3 [(.agg (Qm4 p0)), (.agg (Qaq p1)), (.agg (Qaq p2))] [] (B r) [] := by
  refine Qab Tryz.func3 rfl 0 (nle rfl) (fun X φ0 w0 hφ0 hd0 => ?_)
  unfold Qgd at h
  refine wx tbk [] trivial ?_
  obtain ⟨k1, hk_k1, h⟩ := jko h
  refine wjn (τ := Unit) (fun t => k1 t = some r) (fun _ => ⟨mk 74 [(3, .ref 0 9 0 0), (4, .ref 1 4 0 0), (5, .ref 2 4 0 0)], [(Qzr p0), (Qzq p1), (Qzp p2)]⟩) (fun t h => ?_) ?_
  ·subst hk_k1
   obtain ⟨x3, hf2, h⟩ := bno h
   obtain ⟨x5, hf4, h⟩ := bno h
   obtain ⟨x7, hf6, h⟩ := bno h
   obtain ⟨x9, hf8, h⟩ := bno h
   refine wxd tbk [(1, rp [fu 9, (.tmp 23, (Qn1 p0))] (Qx8 x3)), (3, rp [fu 10, (.tmp 25, (Qqa p1))] (Qx7 x5)), (5, rp [fu 10, (.tmp 27, (Qsp p2))] (Qx6 x7)), (6, rp [fu 8, (.tmp 24, (Qx8 x3)), (.tmp 26, (Qx7 x5)), (.tmp 28, (Qx6 x7))] (.tup [(Qlk x9), I x9.2]))] ⟨apc (first := []) (cap := []) (vs := [(Qn1 p0)]) rfl Zgu (Qsl N (⟨p0.Table, p0.Level, (⟨p0.Unit.Inlet, p0.Unit.Parts⟩ : GUnit), p0.Most, p0.Target, (⟨p0.Cycle.Out, p0.Cycle.Yield, p0.Cycle.Most⟩ : GCycle)⟩ : GLine) _ hf2) rfl rfl (nlc (NLt.agg _ (nlc (nld Qa8 _) (nlc nll (nlc nll (nlc (nld Qap _) (nlc nll (nlc nll (nlc nll (nlc nll (nlc nll nl0)))))))))) nl0) (NLt.agg _ (nlc (nld Qa8 _) (nlc nll (nlc nll (nlc (nld Qap _) (nlc nll (nlc nll (nlc nll (nlc nll (nlc nll nl0)))))))))) rfl, apc (first := []) (cap := []) (vs := [(Qqa p1)]) rfl Qur (Qhi N p1 _ hf4) rfl rfl (nlc (NLt.agg _ (nlc nll (nlc nll (nlc nll (nlc nll nl0))))) nl0) (NLt.agg _ (nlc nll (nlc nll (nlc nll (nlc nll nl0))))) rfl, apc (first := []) (cap := []) (vs := [(Qsp p2)]) rfl Qur (Qhi N p2 _ hf6) rfl rfl (nlc (NLt.agg _ (nlc nll (nlc nll (nlc nll (nlc nll nl0))))) nl0) (NLt.agg _ (nlc nll (nlc nll (nlc nll (nlc nll nl0))))) rfl, apc (first := []) (cap := []) (vs := [(Qx8 x3), (Qx7 x5), (Qx6 x7)]) rfl Zgv (Qqq N (⟨x3.Table, x3.Level, (⟨x3.Unit.Inlet, x3.Unit.Parts⟩ : GUnit), x3.Most, x3.Target, (⟨x3.Cycle.Out, x3.Cycle.Yield, x3.Cycle.Most⟩ : GCycle)⟩ : GLine) x5 x7 _ hf8) rfl rfl (nlc (NLt.agg _ (nlc (nld Qa8 _) (nlc nll (nlc nll (nlc (nld Qap _) (nlc nll (nlc nll (nlc nll (nlc nll (nlc nll nl0)))))))))) (nlc (NLt.agg _ (nlc nll (nlc nll (nlc nll (nlc nll nl0))))) (nlc (NLt.agg _ (nlc nll (nlc nll (nlc nll (nlc nll nl0))))) nl0))) (NLt.tup _ (nlc (NLt.agg _ (nlc nll (nlc nll (nlc nll (nlc nll (nlc nll (nlc nll (nlc nll (nlc nll (nlc nll (nlc nll (nlc nll (nlc nll (nlc nll (nlc nll nl0))))))))))))))) (nlc nll nl0))) rfl, trivial⟩ ?_
   obtain ⟨k10, hk_k10, h⟩ := jko h
   refine wjn (τ := Unit) (fun t => k10 t = some r) (fun _ => ⟨mk 74 [(3, .ref 0 9 0 0), (4, .ref 1 4 0 0), (5, .ref 2 4 0 0), (7, .ref 3 14 0 0), (8, I x9.2)], [(Qzr p0), (Qzq p1), (Qzp p2), (Q3z x9)]⟩) (fun t h => ?_) ?_
   ·subst hk_k10
    obtain ⟨x12, hf11, h⟩ := bno h
    refine wx tbk [(3, rp [fu 13, (.tmp 56, (Qn1 p0)), (.tmp 57, (Qqa p1)), (.tmp 58, (Qsp p2))] (.tup [(Qq3 x12), I x12.2]))] ⟨apc (first := []) (cap := []) (vs := [(Qn1 p0), (Qqa p1), (Qsp p2)]) rfl Ze1 (Qqn N (⟨p0.Table, p0.Level, (⟨p0.Unit.Inlet, p0.Unit.Parts⟩ : GUnit), p0.Most, p0.Target, (⟨p0.Cycle.Out, p0.Cycle.Yield, p0.Cycle.Most⟩ : GCycle)⟩ : GLine) p1 p2 _ hf11) rfl rfl (nlc (NLt.agg _ (nlc (nld Qa8 _) (nlc nll (nlc nll (nlc (nld Qap _) (nlc nll (nlc nll (nlc nll (nlc nll (nlc nll nl0)))))))))) (nlc (NLt.agg _ (nlc nll (nlc nll (nlc nll (nlc nll nl0))))) (nlc (NLt.agg _ (nlc nll (nlc nll (nlc nll (nlc nll nl0))))) nl0))) (NLt.tup _ (nlc (NLt.agg _ (nlc nll (nlc nll (nlc nll (nlc nll (nlc nll (nlc nll (nlc nll (nlc nll (nlc nll (nlc nll (nlc nll (nlc nll (nlc nll (nlc nll nl0))))))))))))))) (nlc nll nl0))) rfl, trivial⟩ ?_
    rcases bft ((x9.2 == x12.2)) with hb13 | hb13
    ·replace h := Qav hb13 h
     obtain ⟨x15, hf14, h⟩ := bno h
     rcases bft ((([x9.1.Turbine, x9.1.Vent, x9.1.Air, x9.1.Work, x9.1.Sink, x9.1.Scale, x9.1.Hot.Mass, x9.1.Hot.Heat, x9.1.Hot.Silica, x9.1.Hot.Gas, x9.1.Brine.Mass, x9.1.Brine.Heat, x9.1.Brine.Silica, x9.1.Brine.Gas] : List Int) == [x15.Turbine, x15.Vent, x15.Air, x15.Work, x15.Sink, x15.Scale, x15.Hot.Mass, x15.Hot.Heat, x15.Hot.Silica, x15.Hot.Gas, x15.Brine.Mass, x15.Brine.Heat, x15.Brine.Silica, x15.Brine.Gas])) with hb16 | hb16
     ·replace h := Qav hb16 h
      obtain ⟨x18, hf17, h⟩ := bno h
      refine wxd tbk [(3, rp [(.tmp 64, (B ((x9.2 == x12.2))))] (B true)), (6, rp [(.tmp 65, B true), fu 14, (.tmp 67, (Qq3 x12))] (Qt0 x15)), (7, rp [(.tmp 65, B true), (.tmp 66, (Qlk x9)), (.tmp 68, (Qt0 x15))] (B ((([x9.1.Turbine, x9.1.Vent, x9.1.Air, x9.1.Work, x9.1.Sink, x9.1.Scale, x9.1.Hot.Mass, x9.1.Hot.Heat, x9.1.Hot.Silica, x9.1.Hot.Gas, x9.1.Brine.Mass, x9.1.Brine.Heat, x9.1.Brine.Silica, x9.1.Brine.Gas] : List Int) == [x15.Turbine, x15.Vent, x15.Air, x15.Work, x15.Sink, x15.Scale, x15.Hot.Mass, x15.Hot.Heat, x15.Hot.Silica, x15.Hot.Gas, x15.Brine.Mass, x15.Brine.Heat, x15.Brine.Silica, x15.Brine.Gas])))), (9, rp [(.tmp 70, (B ((([x9.1.Turbine, x9.1.Vent, x9.1.Air, x9.1.Work, x9.1.Sink, x9.1.Scale, x9.1.Hot.Mass, x9.1.Hot.Heat, x9.1.Hot.Silica, x9.1.Hot.Gas, x9.1.Brine.Mass, x9.1.Brine.Heat, x9.1.Brine.Silica, x9.1.Brine.Gas] : List Int) == [x15.Turbine, x15.Vent, x15.Air, x15.Work, x15.Sink, x15.Scale, x15.Hot.Mass, x15.Hot.Heat, x15.Hot.Silica, x15.Hot.Gas, x15.Brine.Mass, x15.Brine.Heat, x15.Brine.Silica, x15.Brine.Gas]))))] (B true)), (10, rp [(.tmp 71, B true), fu 7] (B x18))] ⟨asb hb13 (amv rfl), ag_ (apc (first := []) (cap := []) (vs := [(Qq3 x12)]) rfl Q51 (Qlf N (⟨x12.1.Turbine, x12.1.Vent, x12.1.Air, x12.1.Work, x12.1.Sink, x12.1.Scale, (⟨x12.1.Hot.Mass, x12.1.Hot.Heat, x12.1.Hot.Silica, x12.1.Hot.Gas⟩ : GStream), (⟨x12.1.Brine.Mass, x12.1.Brine.Heat, x12.1.Brine.Silica, x12.1.Brine.Gas⟩ : GStream)⟩ : GAccount) _ hf14) rfl rfl (nlc (NLt.agg _ (nlc nll (nlc nll (nlc nll (nlc nll (nlc nll (nlc nll (nlc nll (nlc nll (nlc nll (nlc nll (nlc nll (nlc nll (nlc nll (nlc nll nl0))))))))))))))) nl0) (NLt.agg _ (nlc nll (nlc nll (nlc nll (nlc nll (nlc nll (nlc nll (nlc nll (nlc nll (nlc nll (nlc nll (nlc nll (nlc nll (nlc nll (nlc nll nl0))))))))))))))) rfl), ag_ (Qeq (ls := [x9.1.Turbine, x9.1.Vent, x9.1.Air, x9.1.Work, x9.1.Sink, x9.1.Scale, x9.1.Hot.Mass, x9.1.Hot.Heat, x9.1.Hot.Silica, x9.1.Hot.Gas, x9.1.Brine.Mass, x9.1.Brine.Heat, x9.1.Brine.Silica, x9.1.Brine.Gas]) (ks := [x15.Turbine, x15.Vent, x15.Air, x15.Work, x15.Sink, x15.Scale, x15.Hot.Mass, x15.Hot.Heat, x15.Hot.Silica, x15.Hot.Gas, x15.Brine.Mass, x15.Brine.Heat, x15.Brine.Silica, x15.Brine.Gas]) rfl rfl Qwq (by kernel_rfl) rfl rfl), asb hb16 (amv rfl), ag_ (apc (first := []) (cap := []) (vs := []) rfl Qtb (Qf5 2000  _ hf17) rfl rfl nl0 nll rfl), trivial⟩ ?_
      refine Qaa ?_
      obtain rfl := osi h
      exact fend ⟨[B x18], ⟨rot (by kernel_rfl), trivial⟩, rfl⟩ nll
     ·replace h := Qaw hb16 h
      refine wxd tbk [(3, rp [(.tmp 64, (B ((x9.2 == x12.2))))] (B true)), (6, rp [(.tmp 65, B true), fu 14, (.tmp 67, (Qq3 x12))] (Qt0 x15)), (7, rp [(.tmp 65, B true), (.tmp 66, (Qlk x9)), (.tmp 68, (Qt0 x15))] (B ((([x9.1.Turbine, x9.1.Vent, x9.1.Air, x9.1.Work, x9.1.Sink, x9.1.Scale, x9.1.Hot.Mass, x9.1.Hot.Heat, x9.1.Hot.Silica, x9.1.Hot.Gas, x9.1.Brine.Mass, x9.1.Brine.Heat, x9.1.Brine.Silica, x9.1.Brine.Gas] : List Int) == [x15.Turbine, x15.Vent, x15.Air, x15.Work, x15.Sink, x15.Scale, x15.Hot.Mass, x15.Hot.Heat, x15.Hot.Silica, x15.Hot.Gas, x15.Brine.Mass, x15.Brine.Heat, x15.Brine.Silica, x15.Brine.Gas])))), (9, rp [(.tmp 70, (B ((([x9.1.Turbine, x9.1.Vent, x9.1.Air, x9.1.Work, x9.1.Sink, x9.1.Scale, x9.1.Hot.Mass, x9.1.Hot.Heat, x9.1.Hot.Silica, x9.1.Hot.Gas, x9.1.Brine.Mass, x9.1.Brine.Heat, x9.1.Brine.Silica, x9.1.Brine.Gas] : List Int) == [x15.Turbine, x15.Vent, x15.Air, x15.Work, x15.Sink, x15.Scale, x15.Hot.Mass, x15.Hot.Heat, x15.Hot.Silica, x15.Hot.Gas, x15.Brine.Mass, x15.Brine.Heat, x15.Brine.Silica, x15.Brine.Gas]))))] (B false))] ⟨asb hb13 (amv rfl), ag_ (apc (first := []) (cap := []) (vs := [(Qq3 x12)]) rfl Q51 (Qlf N (⟨x12.1.Turbine, x12.1.Vent, x12.1.Air, x12.1.Work, x12.1.Sink, x12.1.Scale, (⟨x12.1.Hot.Mass, x12.1.Hot.Heat, x12.1.Hot.Silica, x12.1.Hot.Gas⟩ : GStream), (⟨x12.1.Brine.Mass, x12.1.Brine.Heat, x12.1.Brine.Silica, x12.1.Brine.Gas⟩ : GStream)⟩ : GAccount) _ hf14) rfl rfl (nlc (NLt.agg _ (nlc nll (nlc nll (nlc nll (nlc nll (nlc nll (nlc nll (nlc nll (nlc nll (nlc nll (nlc nll (nlc nll (nlc nll (nlc nll (nlc nll nl0))))))))))))))) nl0) (NLt.agg _ (nlc nll (nlc nll (nlc nll (nlc nll (nlc nll (nlc nll (nlc nll (nlc nll (nlc nll (nlc nll (nlc nll (nlc nll (nlc nll (nlc nll nl0))))))))))))))) rfl), ag_ (Qeq (ls := [x9.1.Turbine, x9.1.Vent, x9.1.Air, x9.1.Work, x9.1.Sink, x9.1.Scale, x9.1.Hot.Mass, x9.1.Hot.Heat, x9.1.Hot.Silica, x9.1.Hot.Gas, x9.1.Brine.Mass, x9.1.Brine.Heat, x9.1.Brine.Silica, x9.1.Brine.Gas]) (ks := [x15.Turbine, x15.Vent, x15.Air, x15.Work, x15.Sink, x15.Scale, x15.Hot.Mass, x15.Hot.Heat, x15.Hot.Silica, x15.Hot.Gas, x15.Brine.Mass, x15.Brine.Heat, x15.Brine.Silica, x15.Brine.Gas]) rfl rfl Qwq (by kernel_rfl) rfl rfl), asb hb16 (amv rfl), trivial⟩ ?_
      refine Qaa ?_
      obtain rfl := osi h
      exact fend ⟨[B false], ⟨rot (by kernel_rfl), trivial⟩, rfl⟩ nll
    ·replace h := Qaw hb13 h
     refine wxd tbk [(3, rp [(.tmp 64, (B ((x9.2 == x12.2))))] (B false))] ⟨asb hb13 (amv rfl), trivial⟩ ?_
     refine Qaa ?_
     obtain rfl := osi h
     exact fend ⟨[B false], ⟨rot (by kernel_rfl), trivial⟩, rfl⟩ nll
   ·skip
    obtain ⟨x20, hf19, h⟩ := bno h
    rcases bft ((!x20)) with hb21 | hb21
    ·replace h := Qav hb21 h
     refine wx tbk [(1, rp [fu 11, (.tmp 32, (Qn1 p0))] (B x20)), (3, rp [(.tmp 34, (B ((!x20))))] (B true))] ⟨apc (first := []) (cap := []) (vs := [(Qn1 p0)]) rfl Qyt (Qhn N (⟨p0.Table, p0.Level, (⟨p0.Unit.Inlet, p0.Unit.Parts⟩ : GUnit), p0.Most, p0.Target, (⟨p0.Cycle.Out, p0.Cycle.Yield, p0.Cycle.Most⟩ : GCycle)⟩ : GLine) _ hf19) rfl rfl (nlc (NLt.agg _ (nlc (nld Qa8 _) (nlc nll (nlc nll (nlc (nld Qap _) (nlc nll (nlc nll (nlc nll (nlc nll (nlc nll nl0)))))))))) nl0) nll rfl, asb hb21 (amv rfl), trivial⟩ ?_
     refine Qcw (by kernel_rfl) ?_
     rcases bft ((x9.2 == 1)) with hb22 | hb22
     ·replace h := Qav hb22 h
      rcases bft ((([x9.1.Turbine, x9.1.Vent, x9.1.Air, x9.1.Work, x9.1.Sink, x9.1.Scale, x9.1.Hot.Mass, x9.1.Hot.Heat, x9.1.Hot.Silica, x9.1.Hot.Gas, x9.1.Brine.Mass, x9.1.Brine.Heat, x9.1.Brine.Silica, x9.1.Brine.Gas] : List Int) == [0, 0, 0, 0, 0, 0, 0, 0, 0, 0, 0, 0, 0, 0])) with hb23 | hb23
      ·replace h := Qav hb23 h
       obtain ⟨x25, hf24, h⟩ := bno h
       refine wx tbk [(2, rp [(.tmp 46, (B ((x9.2 == 1))))] (B true)), (4, rp [(.tmp 47, B true)] Qjl), (5, rp [(.tmp 47, B true), (.tmp 48, (Qlk x9)), (.tmp 49, Qjl)] (B ((([x9.1.Turbine, x9.1.Vent, x9.1.Air, x9.1.Work, x9.1.Sink, x9.1.Scale, x9.1.Hot.Mass, x9.1.Hot.Heat, x9.1.Hot.Silica, x9.1.Hot.Gas, x9.1.Brine.Mass, x9.1.Brine.Heat, x9.1.Brine.Silica, x9.1.Brine.Gas] : List Int) == [0, 0, 0, 0, 0, 0, 0, 0, 0, 0, 0, 0, 0, 0])))), (7, rp [(.tmp 51, (B ((([x9.1.Turbine, x9.1.Vent, x9.1.Air, x9.1.Work, x9.1.Sink, x9.1.Scale, x9.1.Hot.Mass, x9.1.Hot.Heat, x9.1.Hot.Silica, x9.1.Hot.Gas, x9.1.Brine.Mass, x9.1.Brine.Heat, x9.1.Brine.Silica, x9.1.Brine.Gas] : List Int) == [0, 0, 0, 0, 0, 0, 0, 0, 0, 0, 0, 0, 0, 0]))))] (B true)), (8, rp [(.tmp 52, B true), fu 7] (B x25))] ⟨asb hb22 (amv rfl), ag_ (Qan (vs := []) rfl ts37 tz37 rfl (by rfl) rfl), ag_ (Qeq (ls := [x9.1.Turbine, x9.1.Vent, x9.1.Air, x9.1.Work, x9.1.Sink, x9.1.Scale, x9.1.Hot.Mass, x9.1.Hot.Heat, x9.1.Hot.Silica, x9.1.Hot.Gas, x9.1.Brine.Mass, x9.1.Brine.Heat, x9.1.Brine.Silica, x9.1.Brine.Gas]) (ks := [0, 0, 0, 0, 0, 0, 0, 0, 0, 0, 0, 0, 0, 0]) rfl rfl Qwq (by kernel_rfl) rfl rfl), asb hb23 (amv rfl), ag_ (apc (first := []) (cap := []) (vs := []) rfl Qtb (Qf5 2000  _ hf24) rfl rfl nl0 nll rfl), trivial⟩ ?_
       refine Qaa ?_
       refine Qao ?_
       obtain rfl := osi h
       exact fend ⟨[B x25], ⟨rot (by kernel_rfl), trivial⟩, rfl⟩ nll
      ·replace h := Qaw hb23 h
       refine wx tbk [(2, rp [(.tmp 46, (B ((x9.2 == 1))))] (B true)), (4, rp [(.tmp 47, B true)] Qjl), (5, rp [(.tmp 47, B true), (.tmp 48, (Qlk x9)), (.tmp 49, Qjl)] (B ((([x9.1.Turbine, x9.1.Vent, x9.1.Air, x9.1.Work, x9.1.Sink, x9.1.Scale, x9.1.Hot.Mass, x9.1.Hot.Heat, x9.1.Hot.Silica, x9.1.Hot.Gas, x9.1.Brine.Mass, x9.1.Brine.Heat, x9.1.Brine.Silica, x9.1.Brine.Gas] : List Int) == [0, 0, 0, 0, 0, 0, 0, 0, 0, 0, 0, 0, 0, 0])))), (7, rp [(.tmp 51, (B ((([x9.1.Turbine, x9.1.Vent, x9.1.Air, x9.1.Work, x9.1.Sink, x9.1.Scale, x9.1.Hot.Mass, x9.1.Hot.Heat, x9.1.Hot.Silica, x9.1.Hot.Gas, x9.1.Brine.Mass, x9.1.Brine.Heat, x9.1.Brine.Silica, x9.1.Brine.Gas] : List Int) == [0, 0, 0, 0, 0, 0, 0, 0, 0, 0, 0, 0, 0, 0]))))] (B false))] ⟨asb hb22 (amv rfl), ag_ (Qan (vs := []) rfl ts37 tz37 rfl (by rfl) rfl), ag_ (Qeq (ls := [x9.1.Turbine, x9.1.Vent, x9.1.Air, x9.1.Work, x9.1.Sink, x9.1.Scale, x9.1.Hot.Mass, x9.1.Hot.Heat, x9.1.Hot.Silica, x9.1.Hot.Gas, x9.1.Brine.Mass, x9.1.Brine.Heat, x9.1.Brine.Silica, x9.1.Brine.Gas]) (ks := [0, 0, 0, 0, 0, 0, 0, 0, 0, 0, 0, 0, 0, 0]) rfl rfl Qwq (by kernel_rfl) rfl rfl), asb hb23 (amv rfl), trivial⟩ ?_
       refine Qaa ?_
       refine Qao ?_
       obtain rfl := osi h
       exact fend ⟨[B false], ⟨rot (by kernel_rfl), trivial⟩, rfl⟩ nll
     ·replace h := Qaw hb22 h
      refine wx tbk [(2, rp [(.tmp 46, (B ((x9.2 == 1))))] (B false))] ⟨asb hb22 (amv rfl), trivial⟩ ?_
      refine Qaa ?_
      refine Qao ?_
      obtain rfl := osi h
      exact fend ⟨[B false], ⟨rot (by kernel_rfl), trivial⟩, rfl⟩ nll
    ·replace h := Qaw hb21 h
     obtain ⟨x27, hf26, h⟩ := bno h
     rcases bft ((!x27)) with hb28 | hb28
     ·replace h := Qav hb28 h
      refine wx tbk [(1, rp [fu 11, (.tmp 32, (Qn1 p0))] (B x20)), (3, rp [(.tmp 34, (B ((!x20))))] (B false)), (5, rp [(.tmp 35, B false), fu 12, (.tmp 36, (Qqa p1))] (B x27)), (8, rp [(.tmp 39, (B ((!x27))))] (B true))] ⟨apc (first := []) (cap := []) (vs := [(Qn1 p0)]) rfl Qyt (Qhn N (⟨p0.Table, p0.Level, (⟨p0.Unit.Inlet, p0.Unit.Parts⟩ : GUnit), p0.Most, p0.Target, (⟨p0.Cycle.Out, p0.Cycle.Yield, p0.Cycle.Most⟩ : GCycle)⟩ : GLine) _ hf19) rfl rfl (nlc (NLt.agg _ (nlc (nld Qa8 _) (nlc nll (nlc nll (nlc (nld Qap _) (nlc nll (nlc nll (nlc nll (nlc nll (nlc nll nl0)))))))))) nl0) nll rfl, asb hb21 (amv rfl), ag_ (apc (first := []) (cap := []) (vs := [(Qqa p1)]) rfl Qys (Qgv N p1 _ hf26) rfl rfl (nlc (NLt.agg _ (nlc nll (nlc nll (nlc nll (nlc nll nl0))))) nl0) nll rfl), asb hb28 (amv rfl), trivial⟩ ?_
      refine Qcw (by kernel_rfl) ?_
      rcases bft ((x9.2 == 1)) with hb29 | hb29
      ·replace h := Qav hb29 h
       rcases bft ((([x9.1.Turbine, x9.1.Vent, x9.1.Air, x9.1.Work, x9.1.Sink, x9.1.Scale, x9.1.Hot.Mass, x9.1.Hot.Heat, x9.1.Hot.Silica, x9.1.Hot.Gas, x9.1.Brine.Mass, x9.1.Brine.Heat, x9.1.Brine.Silica, x9.1.Brine.Gas] : List Int) == [0, 0, 0, 0, 0, 0, 0, 0, 0, 0, 0, 0, 0, 0])) with hb30 | hb30
       ·replace h := Qav hb30 h
        obtain ⟨x32, hf31, h⟩ := bno h
        refine wx tbk [(2, rp [(.tmp 46, (B ((x9.2 == 1))))] (B true)), (4, rp [(.tmp 47, B true)] Qjl), (5, rp [(.tmp 47, B true), (.tmp 48, (Qlk x9)), (.tmp 49, Qjl)] (B ((([x9.1.Turbine, x9.1.Vent, x9.1.Air, x9.1.Work, x9.1.Sink, x9.1.Scale, x9.1.Hot.Mass, x9.1.Hot.Heat, x9.1.Hot.Silica, x9.1.Hot.Gas, x9.1.Brine.Mass, x9.1.Brine.Heat, x9.1.Brine.Silica, x9.1.Brine.Gas] : List Int) == [0, 0, 0, 0, 0, 0, 0, 0, 0, 0, 0, 0, 0, 0])))), (7, rp [(.tmp 51, (B ((([x9.1.Turbine, x9.1.Vent, x9.1.Air, x9.1.Work, x9.1.Sink, x9.1.Scale, x9.1.Hot.Mass, x9.1.Hot.Heat, x9.1.Hot.Silica, x9.1.Hot.Gas, x9.1.Brine.Mass, x9.1.Brine.Heat, x9.1.Brine.Silica, x9.1.Brine.Gas] : List Int) == [0, 0, 0, 0, 0, 0, 0, 0, 0, 0, 0, 0, 0, 0]))))] (B true)), (8, rp [(.tmp 52, B true), fu 7] (B x32))] ⟨asb hb29 (amv rfl), ag_ (Qan (vs := []) rfl ts37 tz37 rfl (by rfl) rfl), ag_ (Qeq (ls := [x9.1.Turbine, x9.1.Vent, x9.1.Air, x9.1.Work, x9.1.Sink, x9.1.Scale, x9.1.Hot.Mass, x9.1.Hot.Heat, x9.1.Hot.Silica, x9.1.Hot.Gas, x9.1.Brine.Mass, x9.1.Brine.Heat, x9.1.Brine.Silica, x9.1.Brine.Gas]) (ks := [0, 0, 0, 0, 0, 0, 0, 0, 0, 0, 0, 0, 0, 0]) rfl rfl Qwq (by kernel_rfl) rfl rfl), asb hb30 (amv rfl), ag_ (apc (first := []) (cap := []) (vs := []) rfl Qtb (Qf5 2000  _ hf31) rfl rfl nl0 nll rfl), trivial⟩ ?_
        refine Qaa ?_
        refine Qao ?_
        obtain rfl := osi h
        exact fend ⟨[B x32], ⟨rot (by kernel_rfl), trivial⟩, rfl⟩ nll
       ·replace h := Qaw hb30 h
        refine wx tbk [(2, rp [(.tmp 46, (B ((x9.2 == 1))))] (B true)), (4, rp [(.tmp 47, B true)] Qjl), (5, rp [(.tmp 47, B true), (.tmp 48, (Qlk x9)), (.tmp 49, Qjl)] (B ((([x9.1.Turbine, x9.1.Vent, x9.1.Air, x9.1.Work, x9.1.Sink, x9.1.Scale, x9.1.Hot.Mass, x9.1.Hot.Heat, x9.1.Hot.Silica, x9.1.Hot.Gas, x9.1.Brine.Mass, x9.1.Brine.Heat, x9.1.Brine.Silica, x9.1.Brine.Gas] : List Int) == [0, 0, 0, 0, 0, 0, 0, 0, 0, 0, 0, 0, 0, 0])))), (7, rp [(.tmp 51, (B ((([x9.1.Turbine, x9.1.Vent, x9.1.Air, x9.1.Work, x9.1.Sink, x9.1.Scale, x9.1.Hot.Mass, x9.1.Hot.Heat, x9.1.Hot.Silica, x9.1.Hot.Gas, x9.1.Brine.Mass, x9.1.Brine.Heat, x9.1.Brine.Silica, x9.1.Brine.Gas] : List Int) == [0, 0, 0, 0, 0, 0, 0, 0, 0, 0, 0, 0, 0, 0]))))] (B false))] ⟨asb hb29 (amv rfl), ag_ (Qan (vs := []) rfl ts37 tz37 rfl (by rfl) rfl), ag_ (Qeq (ls := [x9.1.Turbine, x9.1.Vent, x9.1.Air, x9.1.Work, x9.1.Sink, x9.1.Scale, x9.1.Hot.Mass, x9.1.Hot.Heat, x9.1.Hot.Silica, x9.1.Hot.Gas, x9.1.Brine.Mass, x9.1.Brine.Heat, x9.1.Brine.Silica, x9.1.Brine.Gas]) (ks := [0, 0, 0, 0, 0, 0, 0, 0, 0, 0, 0, 0, 0, 0]) rfl rfl Qwq (by kernel_rfl) rfl rfl), asb hb30 (amv rfl), trivial⟩ ?_
        refine Qaa ?_
        refine Qao ?_
        obtain rfl := osi h
        exact fend ⟨[B false], ⟨rot (by kernel_rfl), trivial⟩, rfl⟩ nll
      ·replace h := Qaw hb29 h
       refine wx tbk [(2, rp [(.tmp 46, (B ((x9.2 == 1))))] (B false))] ⟨asb hb29 (amv rfl), trivial⟩ ?_
       refine Qaa ?_
       refine Qao ?_
       obtain rfl := osi h
       exact fend ⟨[B false], ⟨rot (by kernel_rfl), trivial⟩, rfl⟩ nll
     ·replace h := Qaw hb28 h
      obtain ⟨x34, hf33, h⟩ := bno h
      refine wx tbk [(1, rp [fu 11, (.tmp 32, (Qn1 p0))] (B x20)), (3, rp [(.tmp 34, (B ((!x20))))] (B false)), (5, rp [(.tmp 35, B false), fu 12, (.tmp 36, (Qqa p1))] (B x27)), (8, rp [(.tmp 39, (B ((!x27))))] (B false)), (10, rp [(.tmp 40, B false), fu 12, (.tmp 41, (Qsp p2))] (B x34))] ⟨apc (first := []) (cap := []) (vs := [(Qn1 p0)]) rfl Qyt (Qhn N (⟨p0.Table, p0.Level, (⟨p0.Unit.Inlet, p0.Unit.Parts⟩ : GUnit), p0.Most, p0.Target, (⟨p0.Cycle.Out, p0.Cycle.Yield, p0.Cycle.Most⟩ : GCycle)⟩ : GLine) _ hf19) rfl rfl (nlc (NLt.agg _ (nlc (nld Qa8 _) (nlc nll (nlc nll (nlc (nld Qap _) (nlc nll (nlc nll (nlc nll (nlc nll (nlc nll nl0)))))))))) nl0) nll rfl, asb hb21 (amv rfl), ag_ (apc (first := []) (cap := []) (vs := [(Qqa p1)]) rfl Qys (Qgv N p1 _ hf26) rfl rfl (nlc (NLt.agg _ (nlc nll (nlc nll (nlc nll (nlc nll nl0))))) nl0) nll rfl), asb hb28 (amv rfl), ag_ (apc (first := []) (cap := []) (vs := [(Qsp p2)]) rfl Qys (Qgv N p2 _ hf33) rfl rfl (nlc (NLt.agg _ (nlc nll (nlc nll (nlc nll (nlc nll nl0))))) nl0) nll rfl), trivial⟩ ?_
      rcases bft ((!x34)) with hc35 | hc35
      ·replace h := Qav hc35 h
       refine wft hc35 (by kernel_rfl) ?_
       rcases bft ((x9.2 == 1)) with hb36 | hb36
       ·replace h := Qav hb36 h
        rcases bft ((([x9.1.Turbine, x9.1.Vent, x9.1.Air, x9.1.Work, x9.1.Sink, x9.1.Scale, x9.1.Hot.Mass, x9.1.Hot.Heat, x9.1.Hot.Silica, x9.1.Hot.Gas, x9.1.Brine.Mass, x9.1.Brine.Heat, x9.1.Brine.Silica, x9.1.Brine.Gas] : List Int) == [0, 0, 0, 0, 0, 0, 0, 0, 0, 0, 0, 0, 0, 0])) with hb37 | hb37
        ·replace h := Qav hb37 h
         obtain ⟨x39, hf38, h⟩ := bno h
         refine wx tbk [(2, rp [(.tmp 46, (B ((x9.2 == 1))))] (B true)), (4, rp [(.tmp 47, B true)] Qjl), (5, rp [(.tmp 47, B true), (.tmp 48, (Qlk x9)), (.tmp 49, Qjl)] (B ((([x9.1.Turbine, x9.1.Vent, x9.1.Air, x9.1.Work, x9.1.Sink, x9.1.Scale, x9.1.Hot.Mass, x9.1.Hot.Heat, x9.1.Hot.Silica, x9.1.Hot.Gas, x9.1.Brine.Mass, x9.1.Brine.Heat, x9.1.Brine.Silica, x9.1.Brine.Gas] : List Int) == [0, 0, 0, 0, 0, 0, 0, 0, 0, 0, 0, 0, 0, 0])))), (7, rp [(.tmp 51, (B ((([x9.1.Turbine, x9.1.Vent, x9.1.Air, x9.1.Work, x9.1.Sink, x9.1.Scale, x9.1.Hot.Mass, x9.1.Hot.Heat, x9.1.Hot.Silica, x9.1.Hot.Gas, x9.1.Brine.Mass, x9.1.Brine.Heat, x9.1.Brine.Silica, x9.1.Brine.Gas] : List Int) == [0, 0, 0, 0, 0, 0, 0, 0, 0, 0, 0, 0, 0, 0]))))] (B true)), (8, rp [(.tmp 52, B true), fu 7] (B x39))] ⟨asb hb36 (amv rfl), ag_ (Qan (vs := []) rfl ts37 tz37 rfl (by rfl) rfl), ag_ (Qeq (ls := [x9.1.Turbine, x9.1.Vent, x9.1.Air, x9.1.Work, x9.1.Sink, x9.1.Scale, x9.1.Hot.Mass, x9.1.Hot.Heat, x9.1.Hot.Silica, x9.1.Hot.Gas, x9.1.Brine.Mass, x9.1.Brine.Heat, x9.1.Brine.Silica, x9.1.Brine.Gas]) (ks := [0, 0, 0, 0, 0, 0, 0, 0, 0, 0, 0, 0, 0, 0]) rfl rfl Qwq (by kernel_rfl) rfl rfl), asb hb37 (amv rfl), ag_ (apc (first := []) (cap := []) (vs := []) rfl Qtb (Qf5 2000  _ hf38) rfl rfl nl0 nll rfl), trivial⟩ ?_
         refine Qaa ?_
         refine Qao ?_
         obtain rfl := osi h
         exact fend ⟨[B x39], ⟨rot (by kernel_rfl), trivial⟩, rfl⟩ nll
        ·replace h := Qaw hb37 h
         refine wx tbk [(2, rp [(.tmp 46, (B ((x9.2 == 1))))] (B true)), (4, rp [(.tmp 47, B true)] Qjl), (5, rp [(.tmp 47, B true), (.tmp 48, (Qlk x9)), (.tmp 49, Qjl)] (B ((([x9.1.Turbine, x9.1.Vent, x9.1.Air, x9.1.Work, x9.1.Sink, x9.1.Scale, x9.1.Hot.Mass, x9.1.Hot.Heat, x9.1.Hot.Silica, x9.1.Hot.Gas, x9.1.Brine.Mass, x9.1.Brine.Heat, x9.1.Brine.Silica, x9.1.Brine.Gas] : List Int) == [0, 0, 0, 0, 0, 0, 0, 0, 0, 0, 0, 0, 0, 0])))), (7, rp [(.tmp 51, (B ((([x9.1.Turbine, x9.1.Vent, x9.1.Air, x9.1.Work, x9.1.Sink, x9.1.Scale, x9.1.Hot.Mass, x9.1.Hot.Heat, x9.1.Hot.Silica, x9.1.Hot.Gas, x9.1.Brine.Mass, x9.1.Brine.Heat, x9.1.Brine.Silica, x9.1.Brine.Gas] : List Int) == [0, 0, 0, 0, 0, 0, 0, 0, 0, 0, 0, 0, 0, 0]))))] (B false))] ⟨asb hb36 (amv rfl), ag_ (Qan (vs := []) rfl ts37 tz37 rfl (by rfl) rfl), ag_ (Qeq (ls := [x9.1.Turbine, x9.1.Vent, x9.1.Air, x9.1.Work, x9.1.Sink, x9.1.Scale, x9.1.Hot.Mass, x9.1.Hot.Heat, x9.1.Hot.Silica, x9.1.Hot.Gas, x9.1.Brine.Mass, x9.1.Brine.Heat, x9.1.Brine.Silica, x9.1.Brine.Gas]) (ks := [0, 0, 0, 0, 0, 0, 0, 0, 0, 0, 0, 0, 0, 0]) rfl rfl Qwq (by kernel_rfl) rfl rfl), asb hb37 (amv rfl), trivial⟩ ?_
         refine Qaa ?_
         refine Qao ?_
         obtain rfl := osi h
         exact fend ⟨[B false], ⟨rot (by kernel_rfl), trivial⟩, rfl⟩ nll
       ·replace h := Qaw hb36 h
        refine wx tbk [(2, rp [(.tmp 46, (B ((x9.2 == 1))))] (B false))] ⟨asb hb36 (amv rfl), trivial⟩ ?_
        refine Qaa ?_
        refine Qao ?_
        obtain rfl := osi h
        exact fend ⟨[B false], ⟨rot (by kernel_rfl), trivial⟩, rfl⟩ nll
      ·replace h := Qaw hc35 h
       refine wfn hc35 (by kernel_rfl) ?_
       refine Qak ?_
       refine thn ?_
       exact ⟨(), h, (mto (n := 74) [(3, .ref 0 9 0 0), (4, .ref 1 4 0 0), (5, .ref 2 4 0 0), (7, .ref 3 14 0 0), (8, I x9.2)] [0, 1, 2, 3] [(Qzr p0), (Qzq p1), (Qzp p2), (Q3z x9)] hφ0 (pc (.rn (rqr rfl)) (pc (.rn (rqr rfl)) (pc (.rn (rqr rfl)) (pc (.rn (rqr rfl)) (pc rwl pn))))) (qc (spb (lc (.rn (.plain _ (nld Qa8 _))) (lc rwl (lc rwl (lc (.rn (.plain _ (nld Qap _))) (lc rwl (lc rwl (lc rwl (lc rwl (lc rwl ln)))))))))) (qc (spb (lc rwl (lc rwl (lc rwl (lc rwl ln))))) (qc (spb (lc rwl (lc rwl (lc rwl (lc rwl ln))))) (qc (spb (lc rwl (lc rwl (lc rwl (lc rwl (lc rwl (lc rwl (lc rwl (lc rwl (lc rwl (lc rwl (lc rwl (lc rwl (lc rwl (lc rwl ln))))))))))))))) qn)))))⟩
  ·skip
   rcases bft ((decide ((p0.Table.length : Int) > 30))) with hb40 | hb40
   ·replace h := Qav hb40 h
    refine wx tbk [(2, rp [(.tmp 12, (Qzt p0))] (I ((p0.Table.length : Int)))), (4, rp [(.tmp 14, (B ((decide ((p0.Table.length : Int) > 30)))))] (B true))] ⟨alm (c := Qa6) (l := p0.Table) (aln rfl Tryz.underlying23 rfl), asb hb40 (amv rfl), trivial⟩ ?_
    refine Qcw (by kernel_rfl) ?_
    obtain ⟨x42, hf41, h⟩ := bno h
    refine wx tbk [(0, rp [fu 7] (B x42))] ⟨apc (first := []) (cap := []) (vs := []) rfl Qtb (Qf5 2000  _ hf41) rfl rfl nl0 nll rfl, trivial⟩ ?_
    refine Qaa ?_
    refine Qao ?_
    obtain rfl := osi h
    exact fend ⟨[B x42], ⟨rot (by kernel_rfl), trivial⟩, rfl⟩ nll
   ·replace h := Qaw hb40 h
    obtain ⟨x44, hf43, h⟩ := bno h
    refine wx tbk [(2, rp [(.tmp 12, (Qzt p0))] (I ((p0.Table.length : Int)))), (4, rp [(.tmp 14, (B ((decide ((p0.Table.length : Int) > 30)))))] (B false)), (7, rp [(.tmp 15, B false), fu 6, (.tmp 17, (.agg [I p0.Unit.Inlet, (Qzs p0)]))] (B x44))] ⟨alm (c := Qa6) (l := p0.Table) (aln rfl Tryz.underlying23 rfl), asb hb40 (amv rfl), ag_ (apc (first := []) (cap := []) (vs := [(.agg [I p0.Unit.Inlet, (Qzs p0)])]) rfl Zgw (Qru N (⟨p0.Unit.Inlet, p0.Unit.Parts⟩ : GUnit) _ hf43) rfl rfl (nlc (NLt.agg _ (nlc nll (nlc (nld Qap _) nl0))) nl0) nll rfl), trivial⟩ ?_
    rcases bft ((!x44)) with hc45 | hc45
    ·replace h := Qav hc45 h
     refine wft hc45 (by kernel_rfl) ?_
     obtain ⟨x47, hf46, h⟩ := bno h
     refine wx tbk [(0, rp [fu 7] (B x47))] ⟨apc (first := []) (cap := []) (vs := []) rfl Qtb (Qf5 2000  _ hf46) rfl rfl nl0 nll rfl, trivial⟩ ?_
     refine Qaa ?_
     refine Qao ?_
     obtain rfl := osi h
     exact fend ⟨[B x47], ⟨rot (by kernel_rfl), trivial⟩, rfl⟩ nll
    ·replace h := Qaw hc45 h
     refine wfn hc45 (by kernel_rfl) ?_
     refine Qak ?_
     refine thn ?_
     exact ⟨(), h, (mto (n := 74) [(3, .ref 0 9 0 0), (4, .ref 1 4 0 0), (5, .ref 2 4 0 0)] [0, 1, 2] [(Qzr p0), (Qzq p1), (Qzp p2)] hφ0 (pc (.rn (rqr rfl)) (pc (.rn (rqr rfl)) (pc (.rn (rqr rfl)) pn))) (qc (spb (lc (.rn (.plain _ (nld Qa8 _))) (lc rwl (lc rwl (lc (.rn (.plain _ (nld Qap _))) (lc rwl (lc rwl (lc rwl (lc rwl (lc rwl ln)))))))))) (qc (spb (lc rwl (lc rwl (lc rwl (lc rwl ln))))) (qc (spb (lc rwl (lc rwl (lc rwl (lc rwl ln))))) qn))))⟩
end Go.Proofs.YtlhakkkjgdbdpaaGreat
