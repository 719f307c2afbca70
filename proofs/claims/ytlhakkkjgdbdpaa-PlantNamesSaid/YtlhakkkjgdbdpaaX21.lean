/-
  Functions of the program: what they compute, as plain functions, and that they do. No conditions.
-/
import Derived.Test.YtlhakkkjgdbdpaaX12
import Derived.Test.YtlhakkkjgdbdpaaX10
import Derived.Test.YtlhakkkjgdbdpaaX11
import Derived.Test.YtlhakkkjgdbdpaaX14
import Derived.Test.YtlhakkkjgdbdpaaEngOb
namespace Go.Proofs.Ytlhakkkjgdbdpaa
open Go.RowKit
def Qlc (_N : Nat) : Option Unit :=
  some ()
def Qpk : AV := .dat 1 (([0, 50, 100] : List Int).map Qad)
def Qyd : AV := .agg [Qpk, (I (1)), (I (2000)), (I (0)), (.own 1 2 (0) (4))]
def Qyc : Slot := .own 5 [[Qpk, (I (1)), (I (2000)), (I (0)), (.own 1 2 (0) (4))]]
def Qux : Slot := .own 2 (([(⟨10, 100⟩ : GHour), (⟨(-5), 100⟩ : GHour), (⟨40, 100⟩ : GHour), (⟨40, 100⟩ : GHour)] : List GHour).map Qcr)
def Qyf : AV := .agg [(I (10)), (I (100))]
def Qye : AV := .agg [(I ((-5))), (I (100))]
def Qpj : AV := .agg [(I (40)), (I (100))]
set_option maxRecDepth 100000 in
set_option maxHeartbeats 4000000 in
theorem Qo1 (N : Nat) (r : Unit) (h : Qlc N = some r) : Spec Try.prog 63 [] [] Qyd [Qyc, Qux] := by
  refine Qac Try.func63 rfl 2 (nle rfl) (fun X φ0 w0 hφ0 => ?_)
  unfold Qlc at h
  refine Qbj ?_
  refine wx tbk [] trivial ?_
  refine wx tbk [(0, rp [ci 0, ci 50, ci 100] Qpk), (1, rp [ci 10, ci 100] Qyf), (2, rp [ci (-5), ci 100] Qye), (3, rp [ci 40, ci 100] Qpj), (4, rp [ci 40, ci 100] Qpj), (5, ⟨[(.tmp 2, Qyf), (.tmp 3, Qye), (.tmp 4, Qpj), (.tmp 5, Qpj)], [(1, .unused)], (.own 1 2 (0) (4)), [(1, Qux)], false⟩), (6, rp [(.tmp 1, Qpk), ci 1, ci 2000, (.tmp 6, (.own 1 2 (0) (4)))] Qyd)] ⟨Qbk (vs := [I 0, I 50, I 100]) rfl Try.underlying37 ti3 tz3 rfl (by decide) rfl (by decide) (by rfl) (by rfl) (by rfl) rfl, Qaj (vs := [I 10, I 100]) rfl ts50 tz50 rfl (by rfl) rfl, Qaj (vs := [(I ((-5))), I 100]) rfl ts50 tz50 rfl (by rfl) rfl, Qaj (vs := [I 40, I 100]) rfl ts50 tz50 rfl (by rfl) rfl, Qaj (vs := [I 40, I 100]) rfl ts50 tz50 rfl (by rfl) rfl, Qq8 (vs := [Qyf, Qye, Qpj, Qpj]) rfl Try.underlying45 ti50 tz50 rfl (by decide) rfl (by decide) (by rfl) (by rfl) (by rfl) rfl, Qaj (vs := [Qpk, I 1, I 2000, (.own 1 2 (0) (4))]) rfl ts47 tz47 rfl (by rfl) rfl, trivial⟩ ?_
  refine wmr (mto (n := 8) (l' := [(0, .ref 0 5 0 0)]) (own' := [Qyc, Qux]) [(0, .ref 0 5 0 0)] [0, 1] [Qyc, Qux] hφ0 (pc (.rn (rqr rfl)) pn) (qc (spb (lc (.rn (.plain _ (nld Qaa _))) (lc rwl (lc rwl (lc rwl (lc (.rn (Qaf rfl)) ln)))))) (qc (spr Qay) qn))) ?_
  refine Qab ?_
  obtain rfl := osi h
  exact ⟨_, Mor.rfl, Qbx (vs := [Qyd]) ⟨Qbv (n := 0) (m := 5) (j := 0) (i := 0) (xs := [[Qpk, I 1, I 2000, I 0, (.own 1 2 (0) (4))]]) (by kernel_rfl) (by kernel_rfl) ti47 (by decide) rfl (nle rfl) rfl, trivial⟩ rfl (NLt.agg _ (nlc (NLt.of0 (nld Qaa _)) (nlc (NLt.of0 nll) (nlc (NLt.of0 nll) (nlc (NLt.of0 nll) (nlc (NLt.own _ _ _ _ (by decide)) nl0)))))) (by kernel_rfl) (Qag (Qas (nlc (NLt.of0 (nld Qaa _)) (nlc (NLt.of0 nll) (nlc (NLt.of0 nll) (nlc (NLt.of0 nll) (nlc (NLt.own _ _ _ _ (by decide)) nl0)))))) (Qag (Qgm Qay _) Qa5))⟩
def Qhx (N : Nat) : Option Bool :=
  (Qhw 2000 ).bind fun x2 =>
  (Qiy N x2 (⟨120, 330000, 0, 0⟩ : GStream)).bind fun x4 =>
  (Qf6 N (⟨x4.1.Mass, x4.1.Heat, x4.1.Silica, x4.1.Gas⟩ : GStream) (⟨1000, 84000, 0, 3⟩ : GStream) 3).bind fun x6 =>
  (Qk6 N (⟨x6.1.Mass, x6.1.Heat, x6.1.Silica, x6.1.Gas⟩ : GStream) 200).bind fun x8 =>
  (Qkh 2000 ).bind fun x10 =>
  (Qia N x10.1 x10.2).bind fun x12 =>
  (Qk9 N x10.1 x10.2 ([400, 0])).bind fun x14 =>
  Qdu (fun _ =>
    (Qhw 2000 ).bind fun x17 =>
    (Qjg N x17 151).bind fun x19 =>
    (Qhw 2000 ).bind fun x21 =>
    (Qiy N x21 (⟨120, 55999, 0, 0⟩ : GStream)).bind fun x23 =>
    (Qf6 N (⟨x4.1.Mass, x4.1.Heat, x4.1.Silica, x4.1.Gas⟩ : GStream) (⟨1, 0, 0, 3⟩ : GStream) 2).bind fun x25 =>
    (Qf6 N (⟨x4.1.Mass, x4.1.Heat, x4.1.Silica, x4.1.Gas⟩ : GStream) (⟨999881, 0, 0, 0⟩ : GStream) 2).bind fun x27 =>
    (Qjx 2000 ).bind fun x29 =>
    (Qix N x29 ([2, 2, 2, 2])).bind fun x31 =>
    (Qjx 2000 ).bind fun x33 =>
    (Qix N x33 ([0, 1, 2, 2])).bind fun x35 =>
    (Qia N ([5]) x10.2).bind fun x37 =>
    (Qlc N).bind fun _ =>
    chk (decide (0 ≤ 0) && decide ((0 : Int).toNat < 4)) <|
    (([(⟨10, 100⟩ : GHour), (⟨(-5), 100⟩ : GHour), (⟨40, 100⟩ : GHour), (⟨40, 100⟩ : GHour)])[(0 : Int).toNat]?).bind fun x41 =>
    chk (decide (4 ≤ (([(⟨10, 100⟩ : GHour), (⟨(-5), 100⟩ : GHour), (⟨40, 100⟩ : GHour), (⟨40, 100⟩ : GHour)]).set ((0 : Int).toNat) (⟨x41.Price, 0⟩ : GHour)).length)) <|
    (Qhf N (⟨[0, 50, 100], 1, 2000, 2, (([(⟨10, 100⟩ : GHour), (⟨(-5), 100⟩ : GHour), (⟨40, 100⟩ : GHour), (⟨40, 100⟩ : GHour)]).set ((0 : Int).toNat) (⟨x41.Price, 0⟩ : GHour)).take 4⟩ : GJob)).bind fun x45 =>
    bif (x19.2 == 2) then
     bif (x23.2.2 == 9) then
      bif (x25.2.2 == 11) then
       bif (x27.2.2 == 3) then
        bif (x31.2 == 1) then
         bif (x35.2 == 0) then
          bif (x35.1 == 5750) then
           bif (x37.2.2.2 == 1) then
            bif (x45.2.2.2 == 7) then
             (Qin N (⟨0, []⟩ : GUnit)).bind fun x56 =>
             bif (x56 == 1) then
              (Qlb 2000 ).bind fun x59 =>
              some x59
             else
              some false
            else
             some false
           else
            some false
          else
           some false
         else
          some false
        else
         some false
       else
        some false
      else
       some false
     else
      some false
    else
     some false) fun k15 : Unit → Option Bool =>
  bif (x4.2.2 != 0) then
   some false
  else
   bif (!(([x4.1.Mass, x4.1.Heat, x4.1.Silica, x4.1.Gas] : List Int) == [120, 274000, 0, 0])) then
    some false
   else
    bif (x4.2.1 != 56000) then
     some false
    else
     bif (x6.2.2 != 0) then
      some false
     else
      bif (!(([x6.1.Mass, x6.1.Heat, x6.1.Silica, x6.1.Gas] : List Int) == [1120, 358000, 0, 0])) then
       some false
      else
       bif (x6.2.1 != 3) then
        some false
       else
        bif (x8.2.2 != 0) then
         some false
        else
         bif (!(([x8.1.Mass, x8.1.Heat, x8.1.Silica, x8.1.Gas] : List Int) == [1120, 224000, 0, 0])) then
          some false
         else
          bif (x8.2.1 != 134000) then
           some false
          else
           bif (x12.2.2.2 != 0) then
            some false
           else
            (Qkg N x12.1 ([100, 30])).bind fun x71 =>
            bif (!x71) then
             some false
            else
             (Qht N x10.1 x10.2 x12.1 x12.2.1 x12.2.2.1).bind fun x74 =>
             bif (!x74) then
              some false
             else
              bif (x14.2 != 0) then
               some false
              else
               bif (x14.1 != 62000) then
                some false
               else
                k15 ()
def Qyn (x2 : GUnit) : AV := .agg [(I (x2.Inlet)), (.dat 2 ((x2.Parts : List GPart).map Qby))]
def Qym : AV := .agg [(I (120)), (I (330000)), (I (0)), (I (0))]
def Qfz (x4 : (GStream × Int × Int)) : AV := .agg [(I (x4.1.Mass)), (I (x4.1.Heat)), (I (x4.1.Silica)), (I (x4.1.Gas))]
def Qyg : AV := .agg [(I (1000)), (I (84000)), (I (0)), (I (3))]
def Qjs (x6 : (GStream × Int × Int)) : AV := .agg [(I (x6.1.Mass)), (I (x6.1.Heat)), (I (x6.1.Silica)), (I (x6.1.Gas))]
def Qnr (x8 : (GStream × Int × Int)) : AV := .agg [(I (x8.1.Mass)), (I (x8.1.Heat)), (I (x8.1.Silica)), (I (x8.1.Gas))]
def Qi3 (x10 : ((List Int) × (List GUnit))) : AV := .dat 1 ((x10.1 : List Int).map Qad)
def Qff (x10 : ((List Int) × (List GUnit))) : AV := .dat 2 ((x10.2 : List GUnit).map Qbo)
def Qgl (x12 : ((List Int) × Int × (List Int) × Int)) : AV := .dat 1 ((x12.1 : List Int).map Qad)
def Ql9 (x12 : ((List Int) × Int × (List Int) × Int)) : AV := .dat 1 ((x12.2.2.1 : List Int).map Qad)
def Qtp : AV := .dat 1 (([400, 0] : List Int).map Qad)
def Quy (x4 : (GStream × Int × Int)) : Slot := .own 4 [[(I (x4.1.Mass)), (I (x4.1.Heat)), (I (x4.1.Silica)), (I (x4.1.Gas))]]
def Qok (x17 : GUnit) : AV := .agg [(I (x17.Inlet)), (.dat 2 ((x17.Parts : List GPart).map Qby))]
def Qoj (x21 : GUnit) : AV := .agg [(I (x21.Inlet)), (.dat 2 ((x21.Parts : List GPart).map Qby))]
def Qoi : AV := .agg [(I (120)), (I (55999)), (I (0)), (I (0))]
def Ql8 (x23 : (GStream × Int × Int)) : AV := .agg [(I (x23.1.Mass)), (I (x23.1.Heat)), (I (x23.1.Silica)), (I (x23.1.Gas))]
def Qoh : AV := .agg [(I (1)), (I (0)), (I (0)), (I (3))]
def Ql7 (x25 : (GStream × Int × Int)) : AV := .agg [(I (x25.1.Mass)), (I (x25.1.Heat)), (I (x25.1.Silica)), (I (x25.1.Gas))]
def Qog : AV := .agg [(I (999881)), (I (0)), (I (0)), (I (0))]
def Ql6 (x27 : (GStream × Int × Int)) : AV := .agg [(I (x27.1.Mass)), (I (x27.1.Heat)), (I (x27.1.Silica)), (I (x27.1.Gas))]
def Qof (x29 : GJob) : AV := .agg [(.dat 1 ((x29.Levels : List Int).map Qad)), (I (x29.Ramp)), (I (x29.Start)), (I (x29.First)), (.dat 2 ((x29.Hours : List GHour).map Qcr))]
def Qoe : AV := .dat 1 (([2, 2, 2, 2] : List Int).map Qad)
def Qod (x33 : GJob) : AV := .agg [(.dat 1 ((x33.Levels : List Int).map Qad)), (I (x33.Ramp)), (I (x33.Start)), (I (x33.First)), (.dat 2 ((x33.Hours : List GHour).map Qcr))]
def Qoc : AV := .dat 1 (([0, 1, 2, 2] : List Int).map Qad)
def Qob : AV := .dat 1 (([5] : List Int).map Qad)
def Qj4 (x37 : ((List Int) × Int × (List Int) × Int)) : AV := .dat 1 ((x37.1 : List Int).map Qad)
def Qj3 (x37 : ((List Int) × Int × (List Int) × Int)) : AV := .dat 1 ((x37.2.2.1 : List Int).map Qad)
def Ql5 : AV := .dat 1 (([0, 50, 100] : List Int).map Qad)
def Qtn : AV := .agg [Ql5, (I (1)), (I (2000)), (I (0)), (.own 5 2 (0) (4))]
def Qto : Slot := .own 5 [[Ql5, (I (1)), (I (2000)), (I (0)), (.own 5 2 (0) (4))]]
def Qqi : Slot := .own 2 (([(⟨10, 100⟩ : GHour), (⟨(-5), 100⟩ : GHour), (⟨40, 100⟩ : GHour), (⟨40, 100⟩ : GHour)] : List GHour).map Qcr)
def Qyi (x41 : GHour) : Slot := .own 2 ((([(⟨10, 100⟩ : GHour), (⟨(-5), 100⟩ : GHour), (⟨40, 100⟩ : GHour), (⟨40, 100⟩ : GHour)]).set ((0 : Int).toNat) (⟨x41.Price, 0⟩ : GHour) : List GHour).map Qcr)
def Qyl (x23 : (GStream × Int × Int)) : Slot := .own 4 [[(I (x23.1.Mass)), (I (x23.1.Heat)), (I (x23.1.Silica)), (I (x23.1.Gas))]]
def Qyk (x25 : (GStream × Int × Int)) : Slot := .own 4 [[(I (x25.1.Mass)), (I (x25.1.Heat)), (I (x25.1.Silica)), (I (x25.1.Gas))]]
def Qyj (x27 : (GStream × Int × Int)) : Slot := .own 4 [[(I (x27.1.Mass)), (I (x27.1.Heat)), (I (x27.1.Silica)), (I (x27.1.Gas))]]
def Qoa (x41 : GHour) : AV := .dat 2 (((([(⟨10, 100⟩ : GHour), (⟨(-5), 100⟩ : GHour), (⟨40, 100⟩ : GHour), (⟨40, 100⟩ : GHour)]).set ((0 : Int).toNat) (⟨x41.Price, 0⟩ : GHour)).take 4 : List GHour).map Qcr)
def Qyh (x41 : GHour) : AV := .agg [Ql5, (I (1)), (I (2000)), (I (2)), (Qoa x41)]
def Qqh : AV := .agg [(I (0)), (.dat 2 (([] : List GPart).map Qby))]
def Qdx : AV := .agg [(I (120)), (I (274000)), (I (0)), (I (0))]
def Qe9 : AV := .agg [(I (1120)), (I (358000)), (I (0)), (I (0))]
def Qgz : AV := .agg [(I (1120)), (I (224000)), (I (0)), (I (0))]
def Qif : AV := .dat 1 (([100, 30] : List Int).map Qad)
set_option maxRecDepth 100000 in
set_option maxHeartbeats 4000000 in
theorem Qlz (N : Nat) (r : Bool) (h : Qhx N = some r) : Spec Try.prog 14 [] [] (B r) [] := by
  refine Qac Try.func14 rfl 0 (nle rfl) (fun X φ0 w0 hφ0 => ?_)
  unfold Qhx at h
  refine wx tbk [] trivial ?_
  obtain ⟨x2, hf1, h⟩ := bno h
  obtain ⟨x4, hf3, h⟩ := bno h
  refine wx tbk [(0, rp [fu 61] (Qyn x2)), (1, rp [ci 120, ci 330000] Qym), (2, rp [fu 57, (.tmp 43, (Qyn x2)), (.tmp 44, Qym)] (.tup [(Qfz x4), I x4.2.1, I x4.2.2]))] ⟨apc (first := []) (cap := []) (vs := []) rfl Qo3 (Qhi 2000  _ hf1) rfl rfl nl0 (NLt.agg _ (nlc nll (nlc (nld Qbc _) nl0))) rfl, Qaj (vs := [I 120, I 330000]) rfl ts60 tz60 rfl (by rfl) rfl, apc (first := []) (cap := []) (vs := [(Qyn x2), Qym]) rfl enter57 (Qkl N x2 (⟨120, 330000, 0, 0⟩ : GStream) _ hf3) rfl rfl (nlc (NLt.agg _ (nlc nll (nlc (nld Qbc _) nl0))) (nlc (NLt.agg _ (nlc nll (nlc nll (nlc nll (nlc nll nl0))))) nl0)) (NLt.tup _ (nlc (NLt.agg _ (nlc nll (nlc nll (nlc nll (nlc nll nl0))))) (nlc nll (nlc nll nl0)))) rfl, trivial⟩ ?_
  obtain ⟨x6, hf5, h⟩ := bno h
  refine wx tbk [(1, rp [ci 1000, ci 84000, ci 3] Qyg), (2, rp [fu 58, (.tmp 50, (Qfz x4)), (.tmp 51, Qyg), ci 3] (.tup [(Qjs x6), I x6.2.1, I x6.2.2]))] ⟨Qaj (vs := [I 1000, I 84000, I 3]) rfl ts60 tz60 rfl (by rfl) rfl, apc (first := []) (cap := []) (vs := [(Qfz x4), Qyg, I 3]) rfl Qt3 (Qhh N (⟨x4.1.Mass, x4.1.Heat, x4.1.Silica, x4.1.Gas⟩ : GStream) (⟨1000, 84000, 0, 3⟩ : GStream) 3 _ hf5) rfl rfl (nlc (NLt.agg _ (nlc nll (nlc nll (nlc nll (nlc nll nl0))))) (nlc (NLt.agg _ (nlc nll (nlc nll (nlc nll (nlc nll nl0))))) (nlc nll nl0))) (NLt.tup _ (nlc (NLt.agg _ (nlc nll (nlc nll (nlc nll (nlc nll nl0))))) (nlc nll (nlc nll nl0)))) rfl, trivial⟩ ?_
  obtain ⟨x8, hf7, h⟩ := bno h
  refine wx tbk [(1, rp [fu 27, (.tmp 57, (Qjs x6)), ci 200] (.tup [(Qnr x8), I x8.2.1, I x8.2.2]))] ⟨apc (first := []) (cap := []) (vs := [(Qjs x6), I 200]) rfl enter27 (Qov N (⟨x6.1.Mass, x6.1.Heat, x6.1.Silica, x6.1.Gas⟩ : GStream) 200 _ hf7) rfl rfl (nlc (NLt.agg _ (nlc nll (nlc nll (nlc nll (nlc nll nl0))))) (nlc nll nl0)) (NLt.tup _ (nlc (NLt.agg _ (nlc nll (nlc nll (nlc nll (nlc nll nl0))))) (nlc nll (nlc nll nl0)))) rfl, trivial⟩ ?_
  obtain ⟨x10, hf9, h⟩ := bno h
  refine wx tbk [(0, rp [fu 62] (.tup [(Qi3 x10), (Qff x10)]))] ⟨apc (first := []) (cap := []) (vs := []) rfl enter62 (Ql0 2000  _ hf9) rfl rfl nl0 (NLt.tup _ (nlc (nld Qaa _) (nlc (nld Qan _) nl0))) rfl, trivial⟩ ?_
  obtain ⟨x12, hf11, h⟩ := bno h
  refine wx tbk [(2, rp [fu 44, (.tmp 67, (Qi3 x10)), (.tmp 68, (Qff x10))] (.tup [(Qgl x12), I x12.2.1, (Ql9 x12), I x12.2.2.2]))] ⟨apc (first := []) (cap := []) (vs := [(Qi3 x10), (Qff x10)]) rfl Qt5 (Qi6 N x10.1 x10.2 _ hf11) rfl rfl (nlc (nld Qaa _) (nlc (nld Qan _) nl0)) (NLt.tup _ (nlc (nld Qaa _) (nlc nll (nlc (nld Qaa _) (nlc nll nl0))))) rfl, trivial⟩ ?_
  obtain ⟨x14, hf13, h⟩ := bno h
  refine wx tbk [(2, rp [ci 400, ci 0] Qtp), (3, rp [fu 46, (.tmp 75, (Qi3 x10)), (.tmp 76, (Qff x10)), (.tmp 77, Qtp)] (.tup [I x14.1, I x14.2]))] ⟨Qbk (vs := [I 400, I 0]) rfl Try.underlying37 ti3 tz3 rfl (by decide) rfl (by decide) (by rfl) (by rfl) (by rfl) rfl, apc (first := []) (cap := []) (vs := [(Qi3 x10), (Qff x10), Qtp]) rfl enter46 (Qow N x10.1 x10.2 ([400, 0]) _ hf13) rfl rfl (nlc (nld Qaa _) (nlc (nld Qan _) (nlc (nld Qaa _) nl0))) (NLt.tup _ (nlc nll (nlc nll nl0))) rfl, trivial⟩ ?_
  obtain ⟨k15, hk_k15, h⟩ := jko h
  refine wjn (τ := Unit) (fun t => k15 t = some r) (fun _ => ⟨mk 246 [(1, .ref 0 4 0 0), (11, (Qff x10))], [(Quy x4)]⟩) (fun t h => ?_) ?_
  ·subst hk_k15
   obtain ⟨x17, hf16, h⟩ := bno h
   obtain ⟨x19, hf18, h⟩ := bno h
   refine wx tbk [(0, rp [fu 61] (Qok x17)), (1, rp [fu 18, (.tmp 146, (Qok x17)), ci 151] (.tup [I x19.1, I x19.2]))] ⟨apc (first := []) (cap := []) (vs := []) rfl Qo3 (Qhi 2000  _ hf16) rfl rfl nl0 (NLt.agg _ (nlc nll (nlc (nld Qbc _) nl0))) rfl, apc (first := []) (cap := []) (vs := [(Qok x17), I 151]) rfl enter18 (Qk7 N x17 151 _ hf18) rfl rfl (nlc (NLt.agg _ (nlc nll (nlc (nld Qbc _) nl0))) (nlc nll nl0)) (NLt.tup _ (nlc nll (nlc nll nl0))) rfl, trivial⟩ ?_
   obtain ⟨x21, hf20, h⟩ := bno h
   obtain ⟨x23, hf22, h⟩ := bno h
   refine wx tbk [(0, rp [fu 61] (Qoj x21)), (1, rp [ci 120, ci 55999] Qoi), (2, rp [fu 57, (.tmp 151, (Qoj x21)), (.tmp 152, Qoi)] (.tup [(Ql8 x23), I x23.2.1, I x23.2.2]))] ⟨apc (first := []) (cap := []) (vs := []) rfl Qo3 (Qhi 2000  _ hf20) rfl rfl nl0 (NLt.agg _ (nlc nll (nlc (nld Qbc _) nl0))) rfl, Qaj (vs := [I 120, I 55999]) rfl ts60 tz60 rfl (by rfl) rfl, apc (first := []) (cap := []) (vs := [(Qoj x21), Qoi]) rfl enter57 (Qkl N x21 (⟨120, 55999, 0, 0⟩ : GStream) _ hf22) rfl rfl (nlc (NLt.agg _ (nlc nll (nlc (nld Qbc _) nl0))) (nlc (NLt.agg _ (nlc nll (nlc nll (nlc nll (nlc nll nl0))))) nl0)) (NLt.tup _ (nlc (NLt.agg _ (nlc nll (nlc nll (nlc nll (nlc nll nl0))))) (nlc nll (nlc nll nl0)))) rfl, trivial⟩ ?_
   obtain ⟨x25, hf24, h⟩ := bno h
   refine wx tbk [(1, rp [ci 1, ci 3] Qoh), (2, rp [fu 58, (.tmp 158, (Qfz x4)), (.tmp 159, Qoh), ci 2] (.tup [(Ql7 x25), I x25.2.1, I x25.2.2]))] ⟨Qaj (vs := [I 1, I 3]) rfl ts60 tz60 rfl (by rfl) rfl, apc (first := []) (cap := []) (vs := [(Qfz x4), Qoh, I 2]) rfl Qt3 (Qhh N (⟨x4.1.Mass, x4.1.Heat, x4.1.Silica, x4.1.Gas⟩ : GStream) (⟨1, 0, 0, 3⟩ : GStream) 2 _ hf24) rfl rfl (nlc (NLt.agg _ (nlc nll (nlc nll (nlc nll (nlc nll nl0))))) (nlc (NLt.agg _ (nlc nll (nlc nll (nlc nll (nlc nll nl0))))) (nlc nll nl0))) (NLt.tup _ (nlc (NLt.agg _ (nlc nll (nlc nll (nlc nll (nlc nll nl0))))) (nlc nll (nlc nll nl0)))) rfl, trivial⟩ ?_
   obtain ⟨x27, hf26, h⟩ := bno h
   refine wx tbk [(1, rp [ci 999881] Qog), (2, rp [fu 58, (.tmp 165, (Qfz x4)), (.tmp 166, Qog), ci 2] (.tup [(Ql6 x27), I x27.2.1, I x27.2.2]))] ⟨Qaj (vs := [I 999881]) rfl ts60 tz60 rfl (by rfl) rfl, apc (first := []) (cap := []) (vs := [(Qfz x4), Qog, I 2]) rfl Qt3 (Qhh N (⟨x4.1.Mass, x4.1.Heat, x4.1.Silica, x4.1.Gas⟩ : GStream) (⟨999881, 0, 0, 0⟩ : GStream) 2 _ hf26) rfl rfl (nlc (NLt.agg _ (nlc nll (nlc nll (nlc nll (nlc nll nl0))))) (nlc (NLt.agg _ (nlc nll (nlc nll (nlc nll (nlc nll nl0))))) (nlc nll nl0))) (NLt.tup _ (nlc (NLt.agg _ (nlc nll (nlc nll (nlc nll (nlc nll nl0))))) (nlc nll (nlc nll nl0)))) rfl, trivial⟩ ?_
   obtain ⟨x29, hf28, h⟩ := bno h
   obtain ⟨x31, hf30, h⟩ := bno h
   refine wx tbk [(0, rp [fu 63] (Qof x29)), (1, rp [ci 2, ci 2, ci 2, ci 2] Qoe), (2, rp [fu 36, (.tmp 172, (Qof x29)), (.tmp 173, Qoe)] (.tup [I x31.1, I x31.2]))] ⟨apc (first := []) (cap := []) (vs := []) rfl Qqz (Qki 2000  _ hf28) rfl rfl nl0 (NLt.agg _ (nlc (nld Qaa _) (nlc nll (nlc nll (nlc nll (nlc (nld Qay _) nl0)))))) rfl, Qbk (vs := [I 2, I 2, I 2, I 2]) rfl Try.underlying37 ti3 tz3 rfl (by decide) rfl (by decide) (by rfl) (by rfl) (by rfl) rfl, apc (first := []) (cap := []) (vs := [(Qof x29), Qoe]) rfl enter36 (Qkk N x29 ([2, 2, 2, 2]) _ hf30) rfl rfl (nlc (NLt.agg _ (nlc (nld Qaa _) (nlc nll (nlc nll (nlc nll (nlc (nld Qay _) nl0)))))) (nlc (nld Qaa _) nl0)) (NLt.tup _ (nlc nll (nlc nll nl0))) rfl, trivial⟩ ?_
   obtain ⟨x33, hf32, h⟩ := bno h
   obtain ⟨x35, hf34, h⟩ := bno h
   refine wx tbk [(0, rp [fu 63] (Qod x33)), (1, rp [ci 0, ci 1, ci 2, ci 2] Qoc), (2, rp [fu 36, (.tmp 178, (Qod x33)), (.tmp 179, Qoc)] (.tup [I x35.1, I x35.2]))] ⟨apc (first := []) (cap := []) (vs := []) rfl Qqz (Qki 2000  _ hf32) rfl rfl nl0 (NLt.agg _ (nlc (nld Qaa _) (nlc nll (nlc nll (nlc nll (nlc (nld Qay _) nl0)))))) rfl, Qbk (vs := [I 0, I 1, I 2, I 2]) rfl Try.underlying37 ti3 tz3 rfl (by decide) rfl (by decide) (by rfl) (by rfl) (by rfl) rfl, apc (first := []) (cap := []) (vs := [(Qod x33), Qoc]) rfl enter36 (Qkk N x33 ([0, 1, 2, 2]) _ hf34) rfl rfl (nlc (NLt.agg _ (nlc (nld Qaa _) (nlc nll (nlc nll (nlc nll (nlc (nld Qay _) nl0)))))) (nlc (nld Qaa _) nl0)) (NLt.tup _ (nlc nll (nlc nll nl0))) rfl, trivial⟩ ?_
   obtain ⟨x37, hf36, h⟩ := bno h
   refine wx tbk [(0, rp [ci 5] Qob), (2, rp [fu 44, (.tmp 184, Qob), (.tmp 185, (Qff x10))] (.tup [(Qj4 x37), I x37.2.1, (Qj3 x37), I x37.2.2.2]))] ⟨Qbk (vs := [I 5]) rfl Try.underlying37 ti3 tz3 rfl (by decide) rfl (by decide) (by rfl) (by rfl) (by rfl) rfl, apc (first := []) (cap := []) (vs := [Qob, (Qff x10)]) rfl Qt5 (Qi6 N ([5]) x10.2 _ hf36) rfl rfl (nlc (nld Qaa _) (nlc (nld Qan _) nl0)) (NLt.tup _ (nlc (nld Qaa _) (nlc nll (nlc (nld Qaa _) (nlc nll nl0))))) rfl, trivial⟩ ?_
   obtain ⟨x39, hf38, h⟩ := bno h
   refine wx tbk [(0, ⟨[fu 63], [(4, .unused), (5, .unused)], Qtn, [(4, Qto), (5, Qqi)], false⟩)] ⟨Qam (first := []) (cap := []) (vs := []) (σr := []) (σr' := [Qto, Qqi]) (res' := Qtn) [4, 5] rfl Qqz (Qo1 N _ hf38) rfl (Qbi rn0) Qal (slc (Qai (rnc (.plain _ (nld Qaa _)) (rnc (.plain _ nll) (rnc (.plain _ nll) (rnc (.plain _ nll) (rnc (Qhs rfl) rn0)))))) (slc (Qcn Qay) Qal)) (Qbi (rnc (.plain _ (nld Qaa _)) (rnc (.plain _ nll) (rnc (.plain _ nll) (rnc (.plain _ nll) (rnc (Qhs rfl) rn0)))))) rfl rfl rfl, trivial⟩ ?_
   refine wx tbk [] trivial ?_
   obtain ⟨hi40, h⟩ := cko h
   obtain ⟨hi40a, hi40b⟩ := Qaz hi40
   obtain ⟨x41, hg42, h⟩ := bno h
   refine wx tbk [(2, rb [(.tmp 194, (.own 5 2 (0) (4))), ci 0] [(5, Qqi)] (.ref 5 2 ((0 : Int).toNat) 0)), (4, ⟨[(.tmp 196, (.ref 5 2 ((0 : Int).toNat) 1)), ci 0], [(5, Qqi)], .any, [(5, (Qyi x41))], false⟩)] ⟨aio rfl Try.underlying45 ti50 (odt hi40a) (odt hi40b) (Nat.zero_add _), ast rfl ti3 (by rfl) (mgt Qcr hg42) (nle rfl) (Qfx Qcr rfl), trivial⟩ ?_
   obtain ⟨hz43, h⟩ := cko h
   refine wmr (mor_own [(Quy x4), (Qyl x23), (Qyk x25), (Qyj x27), Qto, (Qyi x41), (.own 5 [[Ql5, I 1, I 2000, I 2, (.own 5 2 (0) (4))]])] (mor_fzq (n := 246) (m := 2) (xs := (([(⟨10, 100⟩ : GHour), (⟨(-5), 100⟩ : GHour), (⟨40, 100⟩ : GHour), (⟨40, 100⟩ : GHour)]).set ((0 : Int).toNat) (⟨x41.Price, 0⟩ : GHour) : List GHour).map Qcr) (l' := [(1, .ref 0 4 0 0), (11, (Qff x10)), (18, I x19.1), (19, I x19.2), (20, .ref 1 4 0 0), (21, I x23.2.1), (22, I x23.2.2), (23, .ref 2 4 0 0), (24, I x25.2.1), (25, I x25.2.2), (26, .ref 3 4 0 0), (27, I x27.2.1), (28, I x27.2.2), (29, I x31.1), (30, I x31.2), (31, I x35.1), (32, I x35.2), (33, (Qj4 x37)), (34, I x37.2.1), (35, (Qj3 x37)), (36, I x37.2.2.2), (37, .ref 6 5 0 0), (145, (.tup [I x19.1, I x19.2])), (146, (Qok x17)), (147, (.tup [I x19.1, I x19.2])), (148, I x19.1), (149, I x19.2), (150, (.tup [(Ql8 x23), I x23.2.1, I x23.2.2])), (151, (Qoj x21)), (152, Qoi), (153, (.tup [(Ql8 x23), I x23.2.1, I x23.2.2])), (154, (Ql8 x23)), (155, I x23.2.1), (156, I x23.2.2), (157, (.tup [(Ql7 x25), I x25.2.1, I x25.2.2])), (158, (Qfz x4)), (159, Qoh), (160, (.tup [(Ql7 x25), I x25.2.1, I x25.2.2])), (161, (Ql7 x25)), (162, I x25.2.1), (163, I x25.2.2), (164, (.tup [(Ql6 x27), I x27.2.1, I x27.2.2])), (165, (Qfz x4)), (166, Qog), (167, (.tup [(Ql6 x27), I x27.2.1, I x27.2.2])), (168, (Ql6 x27)), (169, I x27.2.1), (170, I x27.2.2), (171, (.tup [I x31.1, I x31.2])), (172, (Qof x29)), (173, Qoe), (174, (.tup [I x31.1, I x31.2])), (175, I x31.1), (176, I x31.2), (177, (.tup [I x35.1, I x35.2])), (178, (Qod x33)), (179, Qoc), (180, (.tup [I x35.1, I x35.2])), (181, I x35.1), (182, I x35.2), (183, (.tup [(Qj4 x37), I x37.2.1, (Qj3 x37), I x37.2.2.2])), (184, Qob), (185, (Qff x10)), (186, (.tup [(Qj4 x37), I x37.2.1, (Qj3 x37), I x37.2.2.2])), (187, (Qj4 x37)), (188, I x37.2.1), (189, (Qj3 x37)), (190, I x37.2.2.2), (191, (.agg [Ql5, I 1, I 2000, I 0, (Qoa x41)])), (192, .ref 6 5 0 3), (193, .ref 6 5 0 4), (194, (Qoa x41)), (195, .any), (196, .any)]) (own' := [(Quy x4), (Qyl x23), (Qyk x25), (Qyj x27), (.own 5 [[Ql5, I 1, I 2000, I 0, (Qoa x41)]]), .dead, (.own 5 [[Ql5, I 1, I 2000, I 2, (Qoa x41)]])]) 5 [(1, .ref 0 4 0 0), (11, (Qff x10)), (18, I x19.1), (19, I x19.2), (20, .ref 1 4 0 0), (21, I x23.2.1), (22, I x23.2.2), (23, .ref 2 4 0 0), (24, I x25.2.1), (25, I x25.2.2), (26, .ref 3 4 0 0), (27, I x27.2.1), (28, I x27.2.2), (29, I x31.1), (30, I x31.2), (31, I x35.1), (32, I x35.2), (33, (Qj4 x37)), (34, I x37.2.1), (35, (Qj3 x37)), (36, I x37.2.2.2), (37, .ref 6 5 0 0), (145, (.tup [I x19.1, I x19.2])), (146, (Qok x17)), (147, (.tup [I x19.1, I x19.2])), (148, I x19.1), (149, I x19.2), (150, (.tup [(Ql8 x23), I x23.2.1, I x23.2.2])), (151, (Qoj x21)), (152, Qoi), (153, (.tup [(Ql8 x23), I x23.2.1, I x23.2.2])), (154, (Ql8 x23)), (155, I x23.2.1), (156, I x23.2.2), (157, (.tup [(Ql7 x25), I x25.2.1, I x25.2.2])), (158, (Qfz x4)), (159, Qoh), (160, (.tup [(Ql7 x25), I x25.2.1, I x25.2.2])), (161, (Ql7 x25)), (162, I x25.2.1), (163, I x25.2.2), (164, (.tup [(Ql6 x27), I x27.2.1, I x27.2.2])), (165, (Qfz x4)), (166, Qog), (167, (.tup [(Ql6 x27), I x27.2.1, I x27.2.2])), (168, (Ql6 x27)), (169, I x27.2.1), (170, I x27.2.2), (171, (.tup [I x31.1, I x31.2])), (172, (Qof x29)), (173, Qoe), (174, (.tup [I x31.1, I x31.2])), (175, I x31.1), (176, I x31.2), (177, (.tup [I x35.1, I x35.2])), (178, (Qod x33)), (179, Qoc), (180, (.tup [I x35.1, I x35.2])), (181, I x35.1), (182, I x35.2), (183, (.tup [(Qj4 x37), I x37.2.1, (Qj3 x37), I x37.2.2.2])), (184, Qob), (185, (Qff x10)), (186, (.tup [(Qj4 x37), I x37.2.1, (Qj3 x37), I x37.2.2.2])), (187, (Qj4 x37)), (188, I x37.2.1), (189, (Qj3 x37)), (190, I x37.2.2.2), (191, Qtn), (192, .ref 6 5 0 3), (193, .ref 6 5 0 4), (194, (.own 5 2 (0) (4))), (195, (.ref 5 2 ((0 : Int).toNat) 0)), (196, (.ref 5 2 ((0 : Int).toNat) 1))] (by kernel_rfl) (by kernel_rfl) (by kernel_rfl) ⟨rfl, (.same _), rfl, (.same _), rfl, (.same _), rfl, (.same _), rfl, (.same _), rfl, (.same _), rfl, (.same _), rfl, (.same _), rfl, (.same _), rfl, (.same _), rfl, (.same _), rfl, (.same _), rfl, (.same _), rfl, (.same _), rfl, (.same _), rfl, (.same _), rfl, (.same _), rfl, (.same _), rfl, (.same _), rfl, (.same _), rfl, (.same _), rfl, (.same _), rfl, (.same _), rfl, (.same _), rfl, (.same _), rfl, (.same _), rfl, (.same _), rfl, (.same _), rfl, (.same _), rfl, (.same _), rfl, (.same _), rfl, (.same _), rfl, (.same _), rfl, (.same _), rfl, (.same _), rfl, (.same _), rfl, (.same _), rfl, (.same _), rfl, (.same _), rfl, (.same _), rfl, (.same _), rfl, (.same _), rfl, (.same _), rfl, (.same _), rfl, (.same _), rfl, (.same _), rfl, (.same _), rfl, (.same _), rfl, (.same _), rfl, (.same _), rfl, (.same _), rfl, (.same _), rfl, (.same _), rfl, (.same _), rfl, (.same _), rfl, (.same _), rfl, (.same _), rfl, (.same _), rfl, (.same _), rfl, (.same _), rfl, (.same _), rfl, (.same _), rfl, (.same _), rfl, (.same _), rfl, (.same _), rfl, (.same _), rfl, (.same _), rfl, (.same _), rfl, (fz_agg ⟨(.same _), (.same _), (.same _), (.same _), (Qld hz43), trivial⟩), rfl, (.same _), rfl, (.same _), rfl, (Qld hz43), rfl, (.any _), rfl, (.any _), trivial⟩ (qc Qmp (qc Qmp (qc Qmp (qc Qmp (qc (Qu6 (lc (.same _) (lc (.same _) (lc (.same _) (lc (.same _) (lc (Qld hz43) ln)))))) (qc .dead (qc (Qu6 (lc (.same _) (lc (.same _) (lc (.same _) (lc (.same _) (lc (Qld hz43) ln)))))) qn))))))))) ?_
   obtain ⟨x45, hf44, h⟩ := bno h
   refine wx tbk [(1, rp [fu 21, (.tmp 198, (Qyh x41))] (.tup [(.dat 1 ((x45.1 : List Int).map Qad)), I x45.2.1, (.dat 1 ((x45.2.2.1 : List (List Int)).map Qjz)), I x45.2.2.2]))] ⟨apc (first := []) (cap := []) (vs := [(Qyh x41)]) rfl enter21 (Qjh N (⟨[0, 50, 100], 1, 2000, 2, (([(⟨10, 100⟩ : GHour), (⟨(-5), 100⟩ : GHour), (⟨40, 100⟩ : GHour), (⟨40, 100⟩ : GHour)]).set ((0 : Int).toNat) (⟨x41.Price, 0⟩ : GHour)).take 4⟩ : GJob) _ hf44) rfl rfl (nlc (NLt.agg _ (nlc (nld Qaa _) (nlc nll (nlc nll (nlc nll (nlc (nld Qay _) nl0)))))) nl0) (NLt.tup _ (nlc (nld Qaa _) (nlc nll (nlc (nld Qni _) (nlc nll nl0))))) rfl, trivial⟩ ?_
   rcases bft ((x19.2 == 2)) with hb46 | hb46
   ·replace h := Qav hb46 h
    rcases bft ((x23.2.2 == 9)) with hb47 | hb47
    ·replace h := Qav hb47 h
     rcases bft ((x25.2.2 == 11)) with hb48 | hb48
     ·replace h := Qav hb48 h
      rcases bft ((x27.2.2 == 3)) with hb49 | hb49
      ·replace h := Qav hb49 h
       rcases bft ((x31.2 == 1)) with hb50 | hb50
       ·replace h := Qav hb50 h
        rcases bft ((x35.2 == 0)) with hb51 | hb51
        ·replace h := Qav hb51 h
         rcases bft ((x35.1 == 5750)) with hb52 | hb52
         ·replace h := Qav hb52 h
          rcases bft ((x37.2.2.2 == 1)) with hb53 | hb53
          ·replace h := Qav hb53 h
           rcases bft ((x45.2.2.2 == 7)) with hb54 | hb54
           ·replace h := Qav hb54 h
            obtain ⟨x56, hf55, h⟩ := bno h
            rcases bft ((x56 == 1)) with hb57 | hb57
            ·replace h := Qav hb57 h
             obtain ⟨x59, hf58, h⟩ := bno h
             refine wx tbk [(2, rp [(.tmp 205, (B ((x19.2 == 2))))] (B true)), (6, rp [(.tmp 209, (B ((x23.2.2 == 9))))] (B true)), (10, rp [(.tmp 213, (B ((x25.2.2 == 11))))] (B true)), (14, rp [(.tmp 217, (B ((x27.2.2 == 3))))] (B true)), (18, rp [(.tmp 221, (B ((x31.2 == 1))))] (B true)), (22, rp [(.tmp 225, (B ((x35.2 == 0))))] (B true)), (26, rp [(.tmp 229, (B ((x35.1 == 5750))))] (B true)), (30, rp [(.tmp 233, (B ((x37.2.2.2 == 1))))] (B true)), (34, rp [(.tmp 237, (B ((x45.2.2.2 == 7))))] (B true)), (35, rp [(.tmp 238, B true)] (.agg [I 0, nilS])), (36, rp [(.tmp 238, B true), fu 24, (.tmp 239, (.agg [I 0, nilS]))] (I x56)), (39, rp [(.tmp 242, (B ((x56 == 1))))] (B true)), (40, rp [(.tmp 243, B true), fu 17] (B x59))] ⟨asb hb46 (amv rfl), asb hb47 (amv rfl), asb hb48 (amv rfl), asb hb49 (amv rfl), asb hb50 (amv rfl), asb hb51 (amv rfl), asb hb52 (amv rfl), asb hb53 (amv rfl), asb hb54 (amv rfl), ag_ (Qaj (vs := []) rfl ts34 tz34 rfl (by rfl) rfl), ag_ (awk (rd' := (.func 24, (.fn (.func 24) [] [])) :: [(.tmp 239, Qqh)]) ⟨rfl, lrf, rfl, (Less.agg ⟨lrf, Less.nil, trivial⟩), trivial⟩ (apc (first := []) (cap := []) (vs := [Qqh]) rfl enter24 (Qi7 N (⟨0, []⟩ : GUnit) _ hf55) rfl rfl (nlc (NLt.agg _ (nlc nll (nlc (nld Qbc _) nl0))) nl0) nll rfl)), asb hb57 (amv rfl), ag_ (apc (first := []) (cap := []) (vs := []) rfl enter17 (Qo0 2000  _ hf58) rfl rfl nl0 nll rfl), trivial⟩ ?_
             refine Qab ?_
             obtain rfl := osi h
             exact fend ⟨[B x59], ⟨rot (by kernel_rfl), trivial⟩, rfl⟩ nll
            ·replace h := Qaw hb57 h
             refine wx tbk [(2, rp [(.tmp 205, (B ((x19.2 == 2))))] (B true)), (6, rp [(.tmp 209, (B ((x23.2.2 == 9))))] (B true)), (10, rp [(.tmp 213, (B ((x25.2.2 == 11))))] (B true)), (14, rp [(.tmp 217, (B ((x27.2.2 == 3))))] (B true)), (18, rp [(.tmp 221, (B ((x31.2 == 1))))] (B true)), (22, rp [(.tmp 225, (B ((x35.2 == 0))))] (B true)), (26, rp [(.tmp 229, (B ((x35.1 == 5750))))] (B true)), (30, rp [(.tmp 233, (B ((x37.2.2.2 == 1))))] (B true)), (34, rp [(.tmp 237, (B ((x45.2.2.2 == 7))))] (B true)), (35, rp [(.tmp 238, B true)] (.agg [I 0, nilS])), (36, rp [(.tmp 238, B true), fu 24, (.tmp 239, (.agg [I 0, nilS]))] (I x56)), (39, rp [(.tmp 242, (B ((x56 == 1))))] (B false))] ⟨asb hb46 (amv rfl), asb hb47 (amv rfl), asb hb48 (amv rfl), asb hb49 (amv rfl), asb hb50 (amv rfl), asb hb51 (amv rfl), asb hb52 (amv rfl), asb hb53 (amv rfl), asb hb54 (amv rfl), ag_ (Qaj (vs := []) rfl ts34 tz34 rfl (by rfl) rfl), ag_ (awk (rd' := (.func 24, (.fn (.func 24) [] [])) :: [(.tmp 239, Qqh)]) ⟨rfl, lrf, rfl, (Less.agg ⟨lrf, Less.nil, trivial⟩), trivial⟩ (apc (first := []) (cap := []) (vs := [Qqh]) rfl enter24 (Qi7 N (⟨0, []⟩ : GUnit) _ hf55) rfl rfl (nlc (NLt.agg _ (nlc nll (nlc (nld Qbc _) nl0))) nl0) nll rfl)), asb hb57 (amv rfl), trivial⟩ ?_
             refine Qab ?_
             obtain rfl := osi h
             exact fend ⟨[B false], ⟨rot (by kernel_rfl), trivial⟩, rfl⟩ nll
           ·replace h := Qaw hb54 h
            refine wx tbk [(2, rp [(.tmp 205, (B ((x19.2 == 2))))] (B true)), (6, rp [(.tmp 209, (B ((x23.2.2 == 9))))] (B true)), (10, rp [(.tmp 213, (B ((x25.2.2 == 11))))] (B true)), (14, rp [(.tmp 217, (B ((x27.2.2 == 3))))] (B true)), (18, rp [(.tmp 221, (B ((x31.2 == 1))))] (B true)), (22, rp [(.tmp 225, (B ((x35.2 == 0))))] (B true)), (26, rp [(.tmp 229, (B ((x35.1 == 5750))))] (B true)), (30, rp [(.tmp 233, (B ((x37.2.2.2 == 1))))] (B true)), (34, rp [(.tmp 237, (B ((x45.2.2.2 == 7))))] (B false))] ⟨asb hb46 (amv rfl), asb hb47 (amv rfl), asb hb48 (amv rfl), asb hb49 (amv rfl), asb hb50 (amv rfl), asb hb51 (amv rfl), asb hb52 (amv rfl), asb hb53 (amv rfl), asb hb54 (amv rfl), trivial⟩ ?_
            refine Qab ?_
            obtain rfl := osi h
            exact fend ⟨[B false], ⟨rot (by kernel_rfl), trivial⟩, rfl⟩ nll
          ·replace h := Qaw hb53 h
           refine wx tbk [(2, rp [(.tmp 205, (B ((x19.2 == 2))))] (B true)), (6, rp [(.tmp 209, (B ((x23.2.2 == 9))))] (B true)), (10, rp [(.tmp 213, (B ((x25.2.2 == 11))))] (B true)), (14, rp [(.tmp 217, (B ((x27.2.2 == 3))))] (B true)), (18, rp [(.tmp 221, (B ((x31.2 == 1))))] (B true)), (22, rp [(.tmp 225, (B ((x35.2 == 0))))] (B true)), (26, rp [(.tmp 229, (B ((x35.1 == 5750))))] (B true)), (30, rp [(.tmp 233, (B ((x37.2.2.2 == 1))))] (B false))] ⟨asb hb46 (amv rfl), asb hb47 (amv rfl), asb hb48 (amv rfl), asb hb49 (amv rfl), asb hb50 (amv rfl), asb hb51 (amv rfl), asb hb52 (amv rfl), asb hb53 (amv rfl), trivial⟩ ?_
           refine Qab ?_
           obtain rfl := osi h
           exact fend ⟨[B false], ⟨rot (by kernel_rfl), trivial⟩, rfl⟩ nll
         ·replace h := Qaw hb52 h
          refine wx tbk [(2, rp [(.tmp 205, (B ((x19.2 == 2))))] (B true)), (6, rp [(.tmp 209, (B ((x23.2.2 == 9))))] (B true)), (10, rp [(.tmp 213, (B ((x25.2.2 == 11))))] (B true)), (14, rp [(.tmp 217, (B ((x27.2.2 == 3))))] (B true)), (18, rp [(.tmp 221, (B ((x31.2 == 1))))] (B true)), (22, rp [(.tmp 225, (B ((x35.2 == 0))))] (B true)), (26, rp [(.tmp 229, (B ((x35.1 == 5750))))] (B false))] ⟨asb hb46 (amv rfl), asb hb47 (amv rfl), asb hb48 (amv rfl), asb hb49 (amv rfl), asb hb50 (amv rfl), asb hb51 (amv rfl), asb hb52 (amv rfl), trivial⟩ ?_
          refine Qab ?_
          obtain rfl := osi h
          exact fend ⟨[B false], ⟨rot (by kernel_rfl), trivial⟩, rfl⟩ nll
        ·replace h := Qaw hb51 h
         refine wx tbk [(2, rp [(.tmp 205, (B ((x19.2 == 2))))] (B true)), (6, rp [(.tmp 209, (B ((x23.2.2 == 9))))] (B true)), (10, rp [(.tmp 213, (B ((x25.2.2 == 11))))] (B true)), (14, rp [(.tmp 217, (B ((x27.2.2 == 3))))] (B true)), (18, rp [(.tmp 221, (B ((x31.2 == 1))))] (B true)), (22, rp [(.tmp 225, (B ((x35.2 == 0))))] (B false))] ⟨asb hb46 (amv rfl), asb hb47 (amv rfl), asb hb48 (amv rfl), asb hb49 (amv rfl), asb hb50 (amv rfl), asb hb51 (amv rfl), trivial⟩ ?_
         refine Qab ?_
         obtain rfl := osi h
         exact fend ⟨[B false], ⟨rot (by kernel_rfl), trivial⟩, rfl⟩ nll
       ·replace h := Qaw hb50 h
        refine wx tbk [(2, rp [(.tmp 205, (B ((x19.2 == 2))))] (B true)), (6, rp [(.tmp 209, (B ((x23.2.2 == 9))))] (B true)), (10, rp [(.tmp 213, (B ((x25.2.2 == 11))))] (B true)), (14, rp [(.tmp 217, (B ((x27.2.2 == 3))))] (B true)), (18, rp [(.tmp 221, (B ((x31.2 == 1))))] (B false))] ⟨asb hb46 (amv rfl), asb hb47 (amv rfl), asb hb48 (amv rfl), asb hb49 (amv rfl), asb hb50 (amv rfl), trivial⟩ ?_
        refine Qab ?_
        obtain rfl := osi h
        exact fend ⟨[B false], ⟨rot (by kernel_rfl), trivial⟩, rfl⟩ nll
      ·replace h := Qaw hb49 h
       refine wx tbk [(2, rp [(.tmp 205, (B ((x19.2 == 2))))] (B true)), (6, rp [(.tmp 209, (B ((x23.2.2 == 9))))] (B true)), (10, rp [(.tmp 213, (B ((x25.2.2 == 11))))] (B true)), (14, rp [(.tmp 217, (B ((x27.2.2 == 3))))] (B false))] ⟨asb hb46 (amv rfl), asb hb47 (amv rfl), asb hb48 (amv rfl), asb hb49 (amv rfl), trivial⟩ ?_
       refine Qab ?_
       obtain rfl := osi h
       exact fend ⟨[B false], ⟨rot (by kernel_rfl), trivial⟩, rfl⟩ nll
     ·replace h := Qaw hb48 h
      refine wx tbk [(2, rp [(.tmp 205, (B ((x19.2 == 2))))] (B true)), (6, rp [(.tmp 209, (B ((x23.2.2 == 9))))] (B true)), (10, rp [(.tmp 213, (B ((x25.2.2 == 11))))] (B false))] ⟨asb hb46 (amv rfl), asb hb47 (amv rfl), asb hb48 (amv rfl), trivial⟩ ?_
      refine Qab ?_
      obtain rfl := osi h
      exact fend ⟨[B false], ⟨rot (by kernel_rfl), trivial⟩, rfl⟩ nll
    ·replace h := Qaw hb47 h
     refine wx tbk [(2, rp [(.tmp 205, (B ((x19.2 == 2))))] (B true)), (6, rp [(.tmp 209, (B ((x23.2.2 == 9))))] (B false))] ⟨asb hb46 (amv rfl), asb hb47 (amv rfl), trivial⟩ ?_
     refine Qab ?_
     obtain rfl := osi h
     exact fend ⟨[B false], ⟨rot (by kernel_rfl), trivial⟩, rfl⟩ nll
   ·replace h := Qaw hb46 h
    refine wx tbk [(2, rp [(.tmp 205, (B ((x19.2 == 2))))] (B false))] ⟨asb hb46 (amv rfl), trivial⟩ ?_
    refine Qab ?_
    obtain rfl := osi h
    exact fend ⟨[B false], ⟨rot (by kernel_rfl), trivial⟩, rfl⟩ nll
  ·skip
   rcases bft ((x4.2.2 != 0)) with hb60 | hb60
   ·replace h := Qav hb60 h
    refine wx tbk [(2, rp [(.tmp 82, (B ((x4.2.2 != 0))))] (B true))] ⟨asb hb60 (amv rfl), trivial⟩ ?_
    refine Qcy (by kernel_rfl) ?_
    refine wx tbk [] trivial ?_
    refine Qab ?_
    refine Qau ?_
    obtain rfl := osi h
    exact fend ⟨[B false], ⟨rot (by kernel_rfl), trivial⟩, rfl⟩ nll
   ·replace h := Qaw hb60 h
    rcases bft ((!(([x4.1.Mass, x4.1.Heat, x4.1.Silica, x4.1.Gas] : List Int) == [120, 274000, 0, 0]))) with hb61 | hb61
    ·replace h := Qav hb61 h
     refine wx tbk [(2, rp [(.tmp 82, (B ((x4.2.2 != 0))))] (B false)), (4, rp [(.tmp 83, B false), ci 120, ci 274000] Qdx), (5, rp [(.tmp 83, B false), (.tmp 84, (Qfz x4)), (.tmp 85, Qdx)] (B ((!(([x4.1.Mass, x4.1.Heat, x4.1.Silica, x4.1.Gas] : List Int) == [120, 274000, 0, 0]))))), (7, rp [(.tmp 87, (B ((!(([x4.1.Mass, x4.1.Heat, x4.1.Silica, x4.1.Gas] : List Int) == [120, 274000, 0, 0])))))] (B true))] ⟨asb hb60 (amv rfl), ag_ (Qaj (vs := [I 120, I 274000]) rfl ts60 tz60 rfl (by rfl) rfl), ag_ (Qb4 (ls := [x4.1.Mass, x4.1.Heat, x4.1.Silica, x4.1.Gas]) (ks := [120, 274000, 0, 0]) rfl rfl Qfq (by kernel_rfl) rfl rfl), asb hb61 (amv rfl), trivial⟩ ?_
     refine Qcy (by kernel_rfl) ?_
     refine wx tbk [] trivial ?_
     refine Qab ?_
     refine Qau ?_
     obtain rfl := osi h
     exact fend ⟨[B false], ⟨rot (by kernel_rfl), trivial⟩, rfl⟩ nll
    ·replace h := Qaw hb61 h
     rcases bft ((x4.2.1 != 56000)) with hb62 | hb62
     ·replace h := Qav hb62 h
      refine wx tbk [(2, rp [(.tmp 82, (B ((x4.2.2 != 0))))] (B false)), (4, rp [(.tmp 83, B false), ci 120, ci 274000] Qdx), (5, rp [(.tmp 83, B false), (.tmp 84, (Qfz x4)), (.tmp 85, Qdx)] (B ((!(([x4.1.Mass, x4.1.Heat, x4.1.Silica, x4.1.Gas] : List Int) == [120, 274000, 0, 0]))))), (7, rp [(.tmp 87, (B ((!(([x4.1.Mass, x4.1.Heat, x4.1.Silica, x4.1.Gas] : List Int) == [120, 274000, 0, 0])))))] (B false)), (11, rp [(.tmp 91, (B ((x4.2.1 != 56000))))] (B true))] ⟨asb hb60 (amv rfl), ag_ (Qaj (vs := [I 120, I 274000]) rfl ts60 tz60 rfl (by rfl) rfl), ag_ (Qb4 (ls := [x4.1.Mass, x4.1.Heat, x4.1.Silica, x4.1.Gas]) (ks := [120, 274000, 0, 0]) rfl rfl Qfq (by kernel_rfl) rfl rfl), asb hb61 (amv rfl), asb hb62 (amv rfl), trivial⟩ ?_
      refine Qcy (by kernel_rfl) ?_
      refine wx tbk [] trivial ?_
      refine Qab ?_
      refine Qau ?_
      obtain rfl := osi h
      exact fend ⟨[B false], ⟨rot (by kernel_rfl), trivial⟩, rfl⟩ nll
     ·replace h := Qaw hb62 h
      rcases bft ((x6.2.2 != 0)) with hb63 | hb63
      ·replace h := Qav hb63 h
       refine wx tbk [(2, rp [(.tmp 82, (B ((x4.2.2 != 0))))] (B false)), (4, rp [(.tmp 83, B false), ci 120, ci 274000] Qdx), (5, rp [(.tmp 83, B false), (.tmp 84, (Qfz x4)), (.tmp 85, Qdx)] (B ((!(([x4.1.Mass, x4.1.Heat, x4.1.Silica, x4.1.Gas] : List Int) == [120, 274000, 0, 0]))))), (7, rp [(.tmp 87, (B ((!(([x4.1.Mass, x4.1.Heat, x4.1.Silica, x4.1.Gas] : List Int) == [120, 274000, 0, 0])))))] (B false)), (11, rp [(.tmp 91, (B ((x4.2.1 != 56000))))] (B false)), (15, rp [(.tmp 95, (B ((x6.2.2 != 0))))] (B true))] ⟨asb hb60 (amv rfl), ag_ (Qaj (vs := [I 120, I 274000]) rfl ts60 tz60 rfl (by rfl) rfl), ag_ (Qb4 (ls := [x4.1.Mass, x4.1.Heat, x4.1.Silica, x4.1.Gas]) (ks := [120, 274000, 0, 0]) rfl rfl Qfq (by kernel_rfl) rfl rfl), asb hb61 (amv rfl), asb hb62 (amv rfl), asb hb63 (amv rfl), trivial⟩ ?_
       refine Qcy (by kernel_rfl) ?_
       refine wx tbk [] trivial ?_
       refine Qab ?_
       refine Qau ?_
       obtain rfl := osi h
       exact fend ⟨[B false], ⟨rot (by kernel_rfl), trivial⟩, rfl⟩ nll
      ·replace h := Qaw hb63 h
       rcases bft ((!(([x6.1.Mass, x6.1.Heat, x6.1.Silica, x6.1.Gas] : List Int) == [1120, 358000, 0, 0]))) with hb64 | hb64
       ·replace h := Qav hb64 h
        refine wx tbk [(2, rp [(.tmp 82, (B ((x4.2.2 != 0))))] (B false)), (4, rp [(.tmp 83, B false), ci 120, ci 274000] Qdx), (5, rp [(.tmp 83, B false), (.tmp 84, (Qfz x4)), (.tmp 85, Qdx)] (B ((!(([x4.1.Mass, x4.1.Heat, x4.1.Silica, x4.1.Gas] : List Int) == [120, 274000, 0, 0]))))), (7, rp [(.tmp 87, (B ((!(([x4.1.Mass, x4.1.Heat, x4.1.Silica, x4.1.Gas] : List Int) == [120, 274000, 0, 0])))))] (B false)), (11, rp [(.tmp 91, (B ((x4.2.1 != 56000))))] (B false)), (15, rp [(.tmp 95, (B ((x6.2.2 != 0))))] (B false)), (17, rp [(.tmp 96, B false), ci 1120, ci 358000] Qe9), (18, rp [(.tmp 96, B false), (.tmp 97, (Qjs x6)), (.tmp 98, Qe9)] (B ((!(([x6.1.Mass, x6.1.Heat, x6.1.Silica, x6.1.Gas] : List Int) == [1120, 358000, 0, 0]))))), (20, rp [(.tmp 100, (B ((!(([x6.1.Mass, x6.1.Heat, x6.1.Silica, x6.1.Gas] : List Int) == [1120, 358000, 0, 0])))))] (B true))] ⟨asb hb60 (amv rfl), ag_ (Qaj (vs := [I 120, I 274000]) rfl ts60 tz60 rfl (by rfl) rfl), ag_ (Qb4 (ls := [x4.1.Mass, x4.1.Heat, x4.1.Silica, x4.1.Gas]) (ks := [120, 274000, 0, 0]) rfl rfl Qfq (by kernel_rfl) rfl rfl), asb hb61 (amv rfl), asb hb62 (amv rfl), asb hb63 (amv rfl), ag_ (Qaj (vs := [I 1120, I 358000]) rfl ts60 tz60 rfl (by rfl) rfl), ag_ (Qb4 (ls := [x6.1.Mass, x6.1.Heat, x6.1.Silica, x6.1.Gas]) (ks := [1120, 358000, 0, 0]) rfl rfl Qfq (by kernel_rfl) rfl rfl), asb hb64 (amv rfl), trivial⟩ ?_
        refine Qcy (by kernel_rfl) ?_
        refine wx tbk [] trivial ?_
        refine Qab ?_
        refine Qau ?_
        obtain rfl := osi h
        exact fend ⟨[B false], ⟨rot (by kernel_rfl), trivial⟩, rfl⟩ nll
       ·replace h := Qaw hb64 h
        rcases bft ((x6.2.1 != 3)) with hb65 | hb65
        ·replace h := Qav hb65 h
         refine wx tbk [(2, rp [(.tmp 82, (B ((x4.2.2 != 0))))] (B false)), (4, rp [(.tmp 83, B false), ci 120, ci 274000] Qdx), (5, rp [(.tmp 83, B false), (.tmp 84, (Qfz x4)), (.tmp 85, Qdx)] (B ((!(([x4.1.Mass, x4.1.Heat, x4.1.Silica, x4.1.Gas] : List Int) == [120, 274000, 0, 0]))))), (7, rp [(.tmp 87, (B ((!(([x4.1.Mass, x4.1.Heat, x4.1.Silica, x4.1.Gas] : List Int) == [120, 274000, 0, 0])))))] (B false)), (11, rp [(.tmp 91, (B ((x4.2.1 != 56000))))] (B false)), (15, rp [(.tmp 95, (B ((x6.2.2 != 0))))] (B false)), (17, rp [(.tmp 96, B false), ci 1120, ci 358000] Qe9), (18, rp [(.tmp 96, B false), (.tmp 97, (Qjs x6)), (.tmp 98, Qe9)] (B ((!(([x6.1.Mass, x6.1.Heat, x6.1.Silica, x6.1.Gas] : List Int) == [1120, 358000, 0, 0]))))), (20, rp [(.tmp 100, (B ((!(([x6.1.Mass, x6.1.Heat, x6.1.Silica, x6.1.Gas] : List Int) == [1120, 358000, 0, 0])))))] (B false)), (24, rp [(.tmp 104, (B ((x6.2.1 != 3))))] (B true))] ⟨asb hb60 (amv rfl), ag_ (Qaj (vs := [I 120, I 274000]) rfl ts60 tz60 rfl (by rfl) rfl), ag_ (Qb4 (ls := [x4.1.Mass, x4.1.Heat, x4.1.Silica, x4.1.Gas]) (ks := [120, 274000, 0, 0]) rfl rfl Qfq (by kernel_rfl) rfl rfl), asb hb61 (amv rfl), asb hb62 (amv rfl), asb hb63 (amv rfl), ag_ (Qaj (vs := [I 1120, I 358000]) rfl ts60 tz60 rfl (by rfl) rfl), ag_ (Qb4 (ls := [x6.1.Mass, x6.1.Heat, x6.1.Silica, x6.1.Gas]) (ks := [1120, 358000, 0, 0]) rfl rfl Qfq (by kernel_rfl) rfl rfl), asb hb64 (amv rfl), asb hb65 (amv rfl), trivial⟩ ?_
         refine Qcy (by kernel_rfl) ?_
         refine wx tbk [] trivial ?_
         refine Qab ?_
         refine Qau ?_
         obtain rfl := osi h
         exact fend ⟨[B false], ⟨rot (by kernel_rfl), trivial⟩, rfl⟩ nll
        ·replace h := Qaw hb65 h
         rcases bft ((x8.2.2 != 0)) with hb66 | hb66
         ·replace h := Qav hb66 h
          refine wx tbk [(2, rp [(.tmp 82, (B ((x4.2.2 != 0))))] (B false)), (4, rp [(.tmp 83, B false), ci 120, ci 274000] Qdx), (5, rp [(.tmp 83, B false), (.tmp 84, (Qfz x4)), (.tmp 85, Qdx)] (B ((!(([x4.1.Mass, x4.1.Heat, x4.1.Silica, x4.1.Gas] : List Int) == [120, 274000, 0, 0]))))), (7, rp [(.tmp 87, (B ((!(([x4.1.Mass, x4.1.Heat, x4.1.Silica, x4.1.Gas] : List Int) == [120, 274000, 0, 0])))))] (B false)), (11, rp [(.tmp 91, (B ((x4.2.1 != 56000))))] (B false)), (15, rp [(.tmp 95, (B ((x6.2.2 != 0))))] (B false)), (17, rp [(.tmp 96, B false), ci 1120, ci 358000] Qe9), (18, rp [(.tmp 96, B false), (.tmp 97, (Qjs x6)), (.tmp 98, Qe9)] (B ((!(([x6.1.Mass, x6.1.Heat, x6.1.Silica, x6.1.Gas] : List Int) == [1120, 358000, 0, 0]))))), (20, rp [(.tmp 100, (B ((!(([x6.1.Mass, x6.1.Heat, x6.1.Silica, x6.1.Gas] : List Int) == [1120, 358000, 0, 0])))))] (B false)), (24, rp [(.tmp 104, (B ((x6.2.1 != 3))))] (B false)), (28, rp [(.tmp 108, (B ((x8.2.2 != 0))))] (B true))] ⟨asb hb60 (amv rfl), ag_ (Qaj (vs := [I 120, I 274000]) rfl ts60 tz60 rfl (by rfl) rfl), ag_ (Qb4 (ls := [x4.1.Mass, x4.1.Heat, x4.1.Silica, x4.1.Gas]) (ks := [120, 274000, 0, 0]) rfl rfl Qfq (by kernel_rfl) rfl rfl), asb hb61 (amv rfl), asb hb62 (amv rfl), asb hb63 (amv rfl), ag_ (Qaj (vs := [I 1120, I 358000]) rfl ts60 tz60 rfl (by rfl) rfl), ag_ (Qb4 (ls := [x6.1.Mass, x6.1.Heat, x6.1.Silica, x6.1.Gas]) (ks := [1120, 358000, 0, 0]) rfl rfl Qfq (by kernel_rfl) rfl rfl), asb hb64 (amv rfl), asb hb65 (amv rfl), asb hb66 (amv rfl), trivial⟩ ?_
          refine Qcy (by kernel_rfl) ?_
          refine wx tbk [] trivial ?_
          refine Qab ?_
          refine Qau ?_
          obtain rfl := osi h
          exact fend ⟨[B false], ⟨rot (by kernel_rfl), trivial⟩, rfl⟩ nll
         ·replace h := Qaw hb66 h
          rcases bft ((!(([x8.1.Mass, x8.1.Heat, x8.1.Silica, x8.1.Gas] : List Int) == [1120, 224000, 0, 0]))) with hb67 | hb67
          ·replace h := Qav hb67 h
           refine wx tbk [(2, rp [(.tmp 82, (B ((x4.2.2 != 0))))] (B false)), (4, rp [(.tmp 83, B false), ci 120, ci 274000] Qdx), (5, rp [(.tmp 83, B false), (.tmp 84, (Qfz x4)), (.tmp 85, Qdx)] (B ((!(([x4.1.Mass, x4.1.Heat, x4.1.Silica, x4.1.Gas] : List Int) == [120, 274000, 0, 0]))))), (7, rp [(.tmp 87, (B ((!(([x4.1.Mass, x4.1.Heat, x4.1.Silica, x4.1.Gas] : List Int) == [120, 274000, 0, 0])))))] (B false)), (11, rp [(.tmp 91, (B ((x4.2.1 != 56000))))] (B false)), (15, rp [(.tmp 95, (B ((x6.2.2 != 0))))] (B false)), (17, rp [(.tmp 96, B false), ci 1120, ci 358000] Qe9), (18, rp [(.tmp 96, B false), (.tmp 97, (Qjs x6)), (.tmp 98, Qe9)] (B ((!(([x6.1.Mass, x6.1.Heat, x6.1.Silica, x6.1.Gas] : List Int) == [1120, 358000, 0, 0]))))), (20, rp [(.tmp 100, (B ((!(([x6.1.Mass, x6.1.Heat, x6.1.Silica, x6.1.Gas] : List Int) == [1120, 358000, 0, 0])))))] (B false)), (24, rp [(.tmp 104, (B ((x6.2.1 != 3))))] (B false)), (28, rp [(.tmp 108, (B ((x8.2.2 != 0))))] (B false)), (30, rp [(.tmp 109, B false), ci 1120, ci 224000] Qgz), (31, rp [(.tmp 109, B false), (.tmp 110, (Qnr x8)), (.tmp 111, Qgz)] (B ((!(([x8.1.Mass, x8.1.Heat, x8.1.Silica, x8.1.Gas] : List Int) == [1120, 224000, 0, 0]))))), (33, rp [(.tmp 113, (B ((!(([x8.1.Mass, x8.1.Heat, x8.1.Silica, x8.1.Gas] : List Int) == [1120, 224000, 0, 0])))))] (B true))] ⟨asb hb60 (amv rfl), ag_ (Qaj (vs := [I 120, I 274000]) rfl ts60 tz60 rfl (by rfl) rfl), ag_ (Qb4 (ls := [x4.1.Mass, x4.1.Heat, x4.1.Silica, x4.1.Gas]) (ks := [120, 274000, 0, 0]) rfl rfl Qfq (by kernel_rfl) rfl rfl), asb hb61 (amv rfl), asb hb62 (amv rfl), asb hb63 (amv rfl), ag_ (Qaj (vs := [I 1120, I 358000]) rfl ts60 tz60 rfl (by rfl) rfl), ag_ (Qb4 (ls := [x6.1.Mass, x6.1.Heat, x6.1.Silica, x6.1.Gas]) (ks := [1120, 358000, 0, 0]) rfl rfl Qfq (by kernel_rfl) rfl rfl), asb hb64 (amv rfl), asb hb65 (amv rfl), asb hb66 (amv rfl), ag_ (Qaj (vs := [I 1120, I 224000]) rfl ts60 tz60 rfl (by rfl) rfl), ag_ (Qb4 (ls := [x8.1.Mass, x8.1.Heat, x8.1.Silica, x8.1.Gas]) (ks := [1120, 224000, 0, 0]) rfl rfl Qfq (by kernel_rfl) rfl rfl), asb hb67 (amv rfl), trivial⟩ ?_
           refine Qcy (by kernel_rfl) ?_
           refine wx tbk [] trivial ?_
           refine Qab ?_
           refine Qau ?_
           obtain rfl := osi h
           exact fend ⟨[B false], ⟨rot (by kernel_rfl), trivial⟩, rfl⟩ nll
          ·replace h := Qaw hb67 h
           rcases bft ((x8.2.1 != 134000)) with hb68 | hb68
           ·replace h := Qav hb68 h
            refine wx tbk [(2, rp [(.tmp 82, (B ((x4.2.2 != 0))))] (B false)), (4, rp [(.tmp 83, B false), ci 120, ci 274000] Qdx), (5, rp [(.tmp 83, B false), (.tmp 84, (Qfz x4)), (.tmp 85, Qdx)] (B ((!(([x4.1.Mass, x4.1.Heat, x4.1.Silica, x4.1.Gas] : List Int) == [120, 274000, 0, 0]))))), (7, rp [(.tmp 87, (B ((!(([x4.1.Mass, x4.1.Heat, x4.1.Silica, x4.1.Gas] : List Int) == [120, 274000, 0, 0])))))] (B false)), (11, rp [(.tmp 91, (B ((x4.2.1 != 56000))))] (B false)), (15, rp [(.tmp 95, (B ((x6.2.2 != 0))))] (B false)), (17, rp [(.tmp 96, B false), ci 1120, ci 358000] Qe9), (18, rp [(.tmp 96, B false), (.tmp 97, (Qjs x6)), (.tmp 98, Qe9)] (B ((!(([x6.1.Mass, x6.1.Heat, x6.1.Silica, x6.1.Gas] : List Int) == [1120, 358000, 0, 0]))))), (20, rp [(.tmp 100, (B ((!(([x6.1.Mass, x6.1.Heat, x6.1.Silica, x6.1.Gas] : List Int) == [1120, 358000, 0, 0])))))] (B false)), (24, rp [(.tmp 104, (B ((x6.2.1 != 3))))] (B false)), (28, rp [(.tmp 108, (B ((x8.2.2 != 0))))] (B false)), (30, rp [(.tmp 109, B false), ci 1120, ci 224000] Qgz), (31, rp [(.tmp 109, B false), (.tmp 110, (Qnr x8)), (.tmp 111, Qgz)] (B ((!(([x8.1.Mass, x8.1.Heat, x8.1.Silica, x8.1.Gas] : List Int) == [1120, 224000, 0, 0]))))), (33, rp [(.tmp 113, (B ((!(([x8.1.Mass, x8.1.Heat, x8.1.Silica, x8.1.Gas] : List Int) == [1120, 224000, 0, 0])))))] (B false)), (37, rp [(.tmp 117, (B ((x8.2.1 != 134000))))] (B true))] ⟨asb hb60 (amv rfl), ag_ (Qaj (vs := [I 120, I 274000]) rfl ts60 tz60 rfl (by rfl) rfl), ag_ (Qb4 (ls := [x4.1.Mass, x4.1.Heat, x4.1.Silica, x4.1.Gas]) (ks := [120, 274000, 0, 0]) rfl rfl Qfq (by kernel_rfl) rfl rfl), asb hb61 (amv rfl), asb hb62 (amv rfl), asb hb63 (amv rfl), ag_ (Qaj (vs := [I 1120, I 358000]) rfl ts60 tz60 rfl (by rfl) rfl), ag_ (Qb4 (ls := [x6.1.Mass, x6.1.Heat, x6.1.Silica, x6.1.Gas]) (ks := [1120, 358000, 0, 0]) rfl rfl Qfq (by kernel_rfl) rfl rfl), asb hb64 (amv rfl), asb hb65 (amv rfl), asb hb66 (amv rfl), ag_ (Qaj (vs := [I 1120, I 224000]) rfl ts60 tz60 rfl (by rfl) rfl), ag_ (Qb4 (ls := [x8.1.Mass, x8.1.Heat, x8.1.Silica, x8.1.Gas]) (ks := [1120, 224000, 0, 0]) rfl rfl Qfq (by kernel_rfl) rfl rfl), asb hb67 (amv rfl), asb hb68 (amv rfl), trivial⟩ ?_
            refine Qcy (by kernel_rfl) ?_
            refine wx tbk [] trivial ?_
            refine Qab ?_
            refine Qau ?_
            obtain rfl := osi h
            exact fend ⟨[B false], ⟨rot (by kernel_rfl), trivial⟩, rfl⟩ nll
           ·replace h := Qaw hb68 h
            rcases bft ((x12.2.2.2 != 0)) with hb69 | hb69
            ·replace h := Qav hb69 h
             refine wx tbk [(2, rp [(.tmp 82, (B ((x4.2.2 != 0))))] (B false)), (4, rp [(.tmp 83, B false), ci 120, ci 274000] Qdx), (5, rp [(.tmp 83, B false), (.tmp 84, (Qfz x4)), (.tmp 85, Qdx)] (B ((!(([x4.1.Mass, x4.1.Heat, x4.1.Silica, x4.1.Gas] : List Int) == [120, 274000, 0, 0]))))), (7, rp [(.tmp 87, (B ((!(([x4.1.Mass, x4.1.Heat, x4.1.Silica, x4.1.Gas] : List Int) == [120, 274000, 0, 0])))))] (B false)), (11, rp [(.tmp 91, (B ((x4.2.1 != 56000))))] (B false)), (15, rp [(.tmp 95, (B ((x6.2.2 != 0))))] (B false)), (17, rp [(.tmp 96, B false), ci 1120, ci 358000] Qe9), (18, rp [(.tmp 96, B false), (.tmp 97, (Qjs x6)), (.tmp 98, Qe9)] (B ((!(([x6.1.Mass, x6.1.Heat, x6.1.Silica, x6.1.Gas] : List Int) == [1120, 358000, 0, 0]))))), (20, rp [(.tmp 100, (B ((!(([x6.1.Mass, x6.1.Heat, x6.1.Silica, x6.1.Gas] : List Int) == [1120, 358000, 0, 0])))))] (B false)), (24, rp [(.tmp 104, (B ((x6.2.1 != 3))))] (B false)), (28, rp [(.tmp 108, (B ((x8.2.2 != 0))))] (B false)), (30, rp [(.tmp 109, B false), ci 1120, ci 224000] Qgz), (31, rp [(.tmp 109, B false), (.tmp 110, (Qnr x8)), (.tmp 111, Qgz)] (B ((!(([x8.1.Mass, x8.1.Heat, x8.1.Silica, x8.1.Gas] : List Int) == [1120, 224000, 0, 0]))))), (33, rp [(.tmp 113, (B ((!(([x8.1.Mass, x8.1.Heat, x8.1.Silica, x8.1.Gas] : List Int) == [1120, 224000, 0, 0])))))] (B false)), (37, rp [(.tmp 117, (B ((x8.2.1 != 134000))))] (B false)), (41, rp [(.tmp 121, (B ((x12.2.2.2 != 0))))] (B true))] ⟨asb hb60 (amv rfl), ag_ (Qaj (vs := [I 120, I 274000]) rfl ts60 tz60 rfl (by rfl) rfl), ag_ (Qb4 (ls := [x4.1.Mass, x4.1.Heat, x4.1.Silica, x4.1.Gas]) (ks := [120, 274000, 0, 0]) rfl rfl Qfq (by kernel_rfl) rfl rfl), asb hb61 (amv rfl), asb hb62 (amv rfl), asb hb63 (amv rfl), ag_ (Qaj (vs := [I 1120, I 358000]) rfl ts60 tz60 rfl (by rfl) rfl), ag_ (Qb4 (ls := [x6.1.Mass, x6.1.Heat, x6.1.Silica, x6.1.Gas]) (ks := [1120, 358000, 0, 0]) rfl rfl Qfq (by kernel_rfl) rfl rfl), asb hb64 (amv rfl), asb hb65 (amv rfl), asb hb66 (amv rfl), ag_ (Qaj (vs := [I 1120, I 224000]) rfl ts60 tz60 rfl (by rfl) rfl), ag_ (Qb4 (ls := [x8.1.Mass, x8.1.Heat, x8.1.Silica, x8.1.Gas]) (ks := [1120, 224000, 0, 0]) rfl rfl Qfq (by kernel_rfl) rfl rfl), asb hb67 (amv rfl), asb hb68 (amv rfl), asb hb69 (amv rfl), trivial⟩ ?_
             refine Qcy (by kernel_rfl) ?_
             refine wx tbk [] trivial ?_
             refine Qab ?_
             refine Qau ?_
             obtain rfl := osi h
             exact fend ⟨[B false], ⟨rot (by kernel_rfl), trivial⟩, rfl⟩ nll
            ·replace h := Qaw hb69 h
             obtain ⟨x71, hf70, h⟩ := bno h
             rcases bft ((!x71)) with hb72 | hb72
             ·replace h := Qav hb72 h
              refine wx tbk [(2, rp [(.tmp 82, (B ((x4.2.2 != 0))))] (B false)), (4, rp [(.tmp 83, B false), ci 120, ci 274000] Qdx), (5, rp [(.tmp 83, B false), (.tmp 84, (Qfz x4)), (.tmp 85, Qdx)] (B ((!(([x4.1.Mass, x4.1.Heat, x4.1.Silica, x4.1.Gas] : List Int) == [120, 274000, 0, 0]))))), (7, rp [(.tmp 87, (B ((!(([x4.1.Mass, x4.1.Heat, x4.1.Silica, x4.1.Gas] : List Int) == [120, 274000, 0, 0])))))] (B false)), (11, rp [(.tmp 91, (B ((x4.2.1 != 56000))))] (B false)), (15, rp [(.tmp 95, (B ((x6.2.2 != 0))))] (B false)), (17, rp [(.tmp 96, B false), ci 1120, ci 358000] Qe9), (18, rp [(.tmp 96, B false), (.tmp 97, (Qjs x6)), (.tmp 98, Qe9)] (B ((!(([x6.1.Mass, x6.1.Heat, x6.1.Silica, x6.1.Gas] : List Int) == [1120, 358000, 0, 0]))))), (20, rp [(.tmp 100, (B ((!(([x6.1.Mass, x6.1.Heat, x6.1.Silica, x6.1.Gas] : List Int) == [1120, 358000, 0, 0])))))] (B false)), (24, rp [(.tmp 104, (B ((x6.2.1 != 3))))] (B false)), (28, rp [(.tmp 108, (B ((x8.2.2 != 0))))] (B false)), (30, rp [(.tmp 109, B false), ci 1120, ci 224000] Qgz), (31, rp [(.tmp 109, B false), (.tmp 110, (Qnr x8)), (.tmp 111, Qgz)] (B ((!(([x8.1.Mass, x8.1.Heat, x8.1.Silica, x8.1.Gas] : List Int) == [1120, 224000, 0, 0]))))), (33, rp [(.tmp 113, (B ((!(([x8.1.Mass, x8.1.Heat, x8.1.Silica, x8.1.Gas] : List Int) == [1120, 224000, 0, 0])))))] (B false)), (37, rp [(.tmp 117, (B ((x8.2.1 != 134000))))] (B false)), (41, rp [(.tmp 121, (B ((x12.2.2.2 != 0))))] (B false)), (43, rp [(.tmp 122, B false), ci 100, ci 30] Qif), (44, rp [(.tmp 122, B false), fu 40, (.tmp 123, (Qgl x12)), (.tmp 124, Qif)] (B x71)), (47, rp [(.tmp 127, (B ((!x71))))] (B true))] ⟨asb hb60 (amv rfl), ag_ (Qaj (vs := [I 120, I 274000]) rfl ts60 tz60 rfl (by rfl) rfl), ag_ (Qb4 (ls := [x4.1.Mass, x4.1.Heat, x4.1.Silica, x4.1.Gas]) (ks := [120, 274000, 0, 0]) rfl rfl Qfq (by kernel_rfl) rfl rfl), asb hb61 (amv rfl), asb hb62 (amv rfl), asb hb63 (amv rfl), ag_ (Qaj (vs := [I 1120, I 358000]) rfl ts60 tz60 rfl (by rfl) rfl), ag_ (Qb4 (ls := [x6.1.Mass, x6.1.Heat, x6.1.Silica, x6.1.Gas]) (ks := [1120, 358000, 0, 0]) rfl rfl Qfq (by kernel_rfl) rfl rfl), asb hb64 (amv rfl), asb hb65 (amv rfl), asb hb66 (amv rfl), ag_ (Qaj (vs := [I 1120, I 224000]) rfl ts60 tz60 rfl (by rfl) rfl), ag_ (Qb4 (ls := [x8.1.Mass, x8.1.Heat, x8.1.Silica, x8.1.Gas]) (ks := [1120, 224000, 0, 0]) rfl rfl Qfq (by kernel_rfl) rfl rfl), asb hb67 (amv rfl), asb hb68 (amv rfl), asb hb69 (amv rfl), ag_ (Qbk (vs := [I 100, I 30]) rfl Try.underlying37 ti3 tz3 rfl (by decide) rfl (by decide) (by rfl) (by rfl) (by rfl) rfl), ag_ (apc (first := []) (cap := []) (vs := [(Qgl x12), Qif]) rfl Qnn (Qfu N x12.1 ([100, 30]) _ hf70) rfl rfl (nlc (nld Qaa _) (nlc (nld Qaa _) nl0)) nll rfl), asb hb72 (amv rfl), trivial⟩ ?_
              refine Qcy (by kernel_rfl) ?_
              refine wx tbk [] trivial ?_
              refine Qab ?_
              refine Qau ?_
              obtain rfl := osi h
              exact fend ⟨[B false], ⟨rot (by kernel_rfl), trivial⟩, rfl⟩ nll
             ·replace h := Qaw hb72 h
              obtain ⟨x74, hf73, h⟩ := bno h
              rcases bft ((!x74)) with hb75 | hb75
              ·replace h := Qav hb75 h
               refine wx tbk [(2, rp [(.tmp 82, (B ((x4.2.2 != 0))))] (B false)), (4, rp [(.tmp 83, B false), ci 120, ci 274000] Qdx), (5, rp [(.tmp 83, B false), (.tmp 84, (Qfz x4)), (.tmp 85, Qdx)] (B ((!(([x4.1.Mass, x4.1.Heat, x4.1.Silica, x4.1.Gas] : List Int) == [120, 274000, 0, 0]))))), (7, rp [(.tmp 87, (B ((!(([x4.1.Mass, x4.1.Heat, x4.1.Silica, x4.1.Gas] : List Int) == [120, 274000, 0, 0])))))] (B false)), (11, rp [(.tmp 91, (B ((x4.2.1 != 56000))))] (B false)), (15, rp [(.tmp 95, (B ((x6.2.2 != 0))))] (B false)), (17, rp [(.tmp 96, B false), ci 1120, ci 358000] Qe9), (18, rp [(.tmp 96, B false), (.tmp 97, (Qjs x6)), (.tmp 98, Qe9)] (B ((!(([x6.1.Mass, x6.1.Heat, x6.1.Silica, x6.1.Gas] : List Int) == [1120, 358000, 0, 0]))))), (20, rp [(.tmp 100, (B ((!(([x6.1.Mass, x6.1.Heat, x6.1.Silica, x6.1.Gas] : List Int) == [1120, 358000, 0, 0])))))] (B false)), (24, rp [(.tmp 104, (B ((x6.2.1 != 3))))] (B false)), (28, rp [(.tmp 108, (B ((x8.2.2 != 0))))] (B false)), (30, rp [(.tmp 109, B false), ci 1120, ci 224000] Qgz), (31, rp [(.tmp 109, B false), (.tmp 110, (Qnr x8)), (.tmp 111, Qgz)] (B ((!(([x8.1.Mass, x8.1.Heat, x8.1.Silica, x8.1.Gas] : List Int) == [1120, 224000, 0, 0]))))), (33, rp [(.tmp 113, (B ((!(([x8.1.Mass, x8.1.Heat, x8.1.Silica, x8.1.Gas] : List Int) == [1120, 224000, 0, 0])))))] (B false)), (37, rp [(.tmp 117, (B ((x8.2.1 != 134000))))] (B false)), (41, rp [(.tmp 121, (B ((x12.2.2.2 != 0))))] (B false)), (43, rp [(.tmp 122, B false), ci 100, ci 30] Qif), (44, rp [(.tmp 122, B false), fu 40, (.tmp 123, (Qgl x12)), (.tmp 124, Qif)] (B x71)), (47, rp [(.tmp 127, (B ((!x71))))] (B false)), (53, rp [(.tmp 128, B false), fu 53, (.tmp 129, (Qi3 x10)), (.tmp 130, (Qff x10)), (.tmp 131, (Qgl x12)), (.tmp 132, I x12.2.1), (.tmp 133, (Ql9 x12))] (B x74)), (56, rp [(.tmp 136, (B ((!x74))))] (B true))] ⟨asb hb60 (amv rfl), ag_ (Qaj (vs := [I 120, I 274000]) rfl ts60 tz60 rfl (by rfl) rfl), ag_ (Qb4 (ls := [x4.1.Mass, x4.1.Heat, x4.1.Silica, x4.1.Gas]) (ks := [120, 274000, 0, 0]) rfl rfl Qfq (by kernel_rfl) rfl rfl), asb hb61 (amv rfl), asb hb62 (amv rfl), asb hb63 (amv rfl), ag_ (Qaj (vs := [I 1120, I 358000]) rfl ts60 tz60 rfl (by rfl) rfl), ag_ (Qb4 (ls := [x6.1.Mass, x6.1.Heat, x6.1.Silica, x6.1.Gas]) (ks := [1120, 358000, 0, 0]) rfl rfl Qfq (by kernel_rfl) rfl rfl), asb hb64 (amv rfl), asb hb65 (amv rfl), asb hb66 (amv rfl), ag_ (Qaj (vs := [I 1120, I 224000]) rfl ts60 tz60 rfl (by rfl) rfl), ag_ (Qb4 (ls := [x8.1.Mass, x8.1.Heat, x8.1.Silica, x8.1.Gas]) (ks := [1120, 224000, 0, 0]) rfl rfl Qfq (by kernel_rfl) rfl rfl), asb hb67 (amv rfl), asb hb68 (amv rfl), asb hb69 (amv rfl), ag_ (Qbk (vs := [I 100, I 30]) rfl Try.underlying37 ti3 tz3 rfl (by decide) rfl (by decide) (by rfl) (by rfl) (by rfl) rfl), ag_ (apc (first := []) (cap := []) (vs := [(Qgl x12), Qif]) rfl Qnn (Qfu N x12.1 ([100, 30]) _ hf70) rfl rfl (nlc (nld Qaa _) (nlc (nld Qaa _) nl0)) nll rfl), asb hb72 (amv rfl), ag_ (apc (first := []) (cap := []) (vs := [(Qi3 x10), (Qff x10), (Qgl x12), I x12.2.1, (Ql9 x12)]) rfl Qt4 (Qge N x10.1 x10.2 x12.1 x12.2.1 x12.2.2.1 _ hf73) rfl rfl (nlc (nld Qaa _) (nlc (nld Qan _) (nlc (nld Qaa _) (nlc nll (nlc (nld Qaa _) nl0))))) nll rfl), asb hb75 (amv rfl), trivial⟩ ?_
               refine Qcy (by kernel_rfl) ?_
               refine wx tbk [] trivial ?_
               refine Qab ?_
               refine Qau ?_
               obtain rfl := osi h
               exact fend ⟨[B false], ⟨rot (by kernel_rfl), trivial⟩, rfl⟩ nll
              ·replace h := Qaw hb75 h
               rcases bft ((x14.2 != 0)) with hb76 | hb76
               ·replace h := Qav hb76 h
                refine wx tbk [(2, rp [(.tmp 82, (B ((x4.2.2 != 0))))] (B false)), (4, rp [(.tmp 83, B false), ci 120, ci 274000] Qdx), (5, rp [(.tmp 83, B false), (.tmp 84, (Qfz x4)), (.tmp 85, Qdx)] (B ((!(([x4.1.Mass, x4.1.Heat, x4.1.Silica, x4.1.Gas] : List Int) == [120, 274000, 0, 0]))))), (7, rp [(.tmp 87, (B ((!(([x4.1.Mass, x4.1.Heat, x4.1.Silica, x4.1.Gas] : List Int) == [120, 274000, 0, 0])))))] (B false)), (11, rp [(.tmp 91, (B ((x4.2.1 != 56000))))] (B false)), (15, rp [(.tmp 95, (B ((x6.2.2 != 0))))] (B false)), (17, rp [(.tmp 96, B false), ci 1120, ci 358000] Qe9), (18, rp [(.tmp 96, B false), (.tmp 97, (Qjs x6)), (.tmp 98, Qe9)] (B ((!(([x6.1.Mass, x6.1.Heat, x6.1.Silica, x6.1.Gas] : List Int) == [1120, 358000, 0, 0]))))), (20, rp [(.tmp 100, (B ((!(([x6.1.Mass, x6.1.Heat, x6.1.Silica, x6.1.Gas] : List Int) == [1120, 358000, 0, 0])))))] (B false)), (24, rp [(.tmp 104, (B ((x6.2.1 != 3))))] (B false)), (28, rp [(.tmp 108, (B ((x8.2.2 != 0))))] (B false)), (30, rp [(.tmp 109, B false), ci 1120, ci 224000] Qgz), (31, rp [(.tmp 109, B false), (.tmp 110, (Qnr x8)), (.tmp 111, Qgz)] (B ((!(([x8.1.Mass, x8.1.Heat, x8.1.Silica, x8.1.Gas] : List Int) == [1120, 224000, 0, 0]))))), (33, rp [(.tmp 113, (B ((!(([x8.1.Mass, x8.1.Heat, x8.1.Silica, x8.1.Gas] : List Int) == [1120, 224000, 0, 0])))))] (B false)), (37, rp [(.tmp 117, (B ((x8.2.1 != 134000))))] (B false)), (41, rp [(.tmp 121, (B ((x12.2.2.2 != 0))))] (B false)), (43, rp [(.tmp 122, B false), ci 100, ci 30] Qif), (44, rp [(.tmp 122, B false), fu 40, (.tmp 123, (Qgl x12)), (.tmp 124, Qif)] (B x71)), (47, rp [(.tmp 127, (B ((!x71))))] (B false)), (53, rp [(.tmp 128, B false), fu 53, (.tmp 129, (Qi3 x10)), (.tmp 130, (Qff x10)), (.tmp 131, (Qgl x12)), (.tmp 132, I x12.2.1), (.tmp 133, (Ql9 x12))] (B x74)), (56, rp [(.tmp 136, (B ((!x74))))] (B false)), (60, rp [(.tmp 140, (B ((x14.2 != 0))))] (B true))] ⟨asb hb60 (amv rfl), ag_ (Qaj (vs := [I 120, I 274000]) rfl ts60 tz60 rfl (by rfl) rfl), ag_ (Qb4 (ls := [x4.1.Mass, x4.1.Heat, x4.1.Silica, x4.1.Gas]) (ks := [120, 274000, 0, 0]) rfl rfl Qfq (by kernel_rfl) rfl rfl), asb hb61 (amv rfl), asb hb62 (amv rfl), asb hb63 (amv rfl), ag_ (Qaj (vs := [I 1120, I 358000]) rfl ts60 tz60 rfl (by rfl) rfl), ag_ (Qb4 (ls := [x6.1.Mass, x6.1.Heat, x6.1.Silica, x6.1.Gas]) (ks := [1120, 358000, 0, 0]) rfl rfl Qfq (by kernel_rfl) rfl rfl), asb hb64 (amv rfl), asb hb65 (amv rfl), asb hb66 (amv rfl), ag_ (Qaj (vs := [I 1120, I 224000]) rfl ts60 tz60 rfl (by rfl) rfl), ag_ (Qb4 (ls := [x8.1.Mass, x8.1.Heat, x8.1.Silica, x8.1.Gas]) (ks := [1120, 224000, 0, 0]) rfl rfl Qfq (by kernel_rfl) rfl rfl), asb hb67 (amv rfl), asb hb68 (amv rfl), asb hb69 (amv rfl), ag_ (Qbk (vs := [I 100, I 30]) rfl Try.underlying37 ti3 tz3 rfl (by decide) rfl (by decide) (by rfl) (by rfl) (by rfl) rfl), ag_ (apc (first := []) (cap := []) (vs := [(Qgl x12), Qif]) rfl Qnn (Qfu N x12.1 ([100, 30]) _ hf70) rfl rfl (nlc (nld Qaa _) (nlc (nld Qaa _) nl0)) nll rfl), asb hb72 (amv rfl), ag_ (apc (first := []) (cap := []) (vs := [(Qi3 x10), (Qff x10), (Qgl x12), I x12.2.1, (Ql9 x12)]) rfl Qt4 (Qge N x10.1 x10.2 x12.1 x12.2.1 x12.2.2.1 _ hf73) rfl rfl (nlc (nld Qaa _) (nlc (nld Qan _) (nlc (nld Qaa _) (nlc nll (nlc (nld Qaa _) nl0))))) nll rfl), asb hb75 (amv rfl), asb hb76 (amv rfl), trivial⟩ ?_
                refine Qcy (by kernel_rfl) ?_
                refine wx tbk [] trivial ?_
                refine Qab ?_
                refine Qau ?_
                obtain rfl := osi h
                exact fend ⟨[B false], ⟨rot (by kernel_rfl), trivial⟩, rfl⟩ nll
               ·replace h := Qaw hb76 h
                refine wx tbk [(2, rp [(.tmp 82, (B ((x4.2.2 != 0))))] (B false)), (4, rp [(.tmp 83, B false), ci 120, ci 274000] Qdx), (5, rp [(.tmp 83, B false), (.tmp 84, (Qfz x4)), (.tmp 85, Qdx)] (B ((!(([x4.1.Mass, x4.1.Heat, x4.1.Silica, x4.1.Gas] : List Int) == [120, 274000, 0, 0]))))), (7, rp [(.tmp 87, (B ((!(([x4.1.Mass, x4.1.Heat, x4.1.Silica, x4.1.Gas] : List Int) == [120, 274000, 0, 0])))))] (B false)), (11, rp [(.tmp 91, (B ((x4.2.1 != 56000))))] (B false)), (15, rp [(.tmp 95, (B ((x6.2.2 != 0))))] (B false)), (17, rp [(.tmp 96, B false), ci 1120, ci 358000] Qe9), (18, rp [(.tmp 96, B false), (.tmp 97, (Qjs x6)), (.tmp 98, Qe9)] (B ((!(([x6.1.Mass, x6.1.Heat, x6.1.Silica, x6.1.Gas] : List Int) == [1120, 358000, 0, 0]))))), (20, rp [(.tmp 100, (B ((!(([x6.1.Mass, x6.1.Heat, x6.1.Silica, x6.1.Gas] : List Int) == [1120, 358000, 0, 0])))))] (B false)), (24, rp [(.tmp 104, (B ((x6.2.1 != 3))))] (B false)), (28, rp [(.tmp 108, (B ((x8.2.2 != 0))))] (B false)), (30, rp [(.tmp 109, B false), ci 1120, ci 224000] Qgz), (31, rp [(.tmp 109, B false), (.tmp 110, (Qnr x8)), (.tmp 111, Qgz)] (B ((!(([x8.1.Mass, x8.1.Heat, x8.1.Silica, x8.1.Gas] : List Int) == [1120, 224000, 0, 0]))))), (33, rp [(.tmp 113, (B ((!(([x8.1.Mass, x8.1.Heat, x8.1.Silica, x8.1.Gas] : List Int) == [1120, 224000, 0, 0])))))] (B false)), (37, rp [(.tmp 117, (B ((x8.2.1 != 134000))))] (B false)), (41, rp [(.tmp 121, (B ((x12.2.2.2 != 0))))] (B false)), (43, rp [(.tmp 122, B false), ci 100, ci 30] Qif), (44, rp [(.tmp 122, B false), fu 40, (.tmp 123, (Qgl x12)), (.tmp 124, Qif)] (B x71)), (47, rp [(.tmp 127, (B ((!x71))))] (B false)), (53, rp [(.tmp 128, B false), fu 53, (.tmp 129, (Qi3 x10)), (.tmp 130, (Qff x10)), (.tmp 131, (Qgl x12)), (.tmp 132, I x12.2.1), (.tmp 133, (Ql9 x12))] (B x74)), (56, rp [(.tmp 136, (B ((!x74))))] (B false)), (60, rp [(.tmp 140, (B ((x14.2 != 0))))] (B false))] ⟨asb hb60 (amv rfl), ag_ (Qaj (vs := [I 120, I 274000]) rfl ts60 tz60 rfl (by rfl) rfl), ag_ (Qb4 (ls := [x4.1.Mass, x4.1.Heat, x4.1.Silica, x4.1.Gas]) (ks := [120, 274000, 0, 0]) rfl rfl Qfq (by kernel_rfl) rfl rfl), asb hb61 (amv rfl), asb hb62 (amv rfl), asb hb63 (amv rfl), ag_ (Qaj (vs := [I 1120, I 358000]) rfl ts60 tz60 rfl (by rfl) rfl), ag_ (Qb4 (ls := [x6.1.Mass, x6.1.Heat, x6.1.Silica, x6.1.Gas]) (ks := [1120, 358000, 0, 0]) rfl rfl Qfq (by kernel_rfl) rfl rfl), asb hb64 (amv rfl), asb hb65 (amv rfl), asb hb66 (amv rfl), ag_ (Qaj (vs := [I 1120, I 224000]) rfl ts60 tz60 rfl (by rfl) rfl), ag_ (Qb4 (ls := [x8.1.Mass, x8.1.Heat, x8.1.Silica, x8.1.Gas]) (ks := [1120, 224000, 0, 0]) rfl rfl Qfq (by kernel_rfl) rfl rfl), asb hb67 (amv rfl), asb hb68 (amv rfl), asb hb69 (amv rfl), ag_ (Qbk (vs := [I 100, I 30]) rfl Try.underlying37 ti3 tz3 rfl (by decide) rfl (by decide) (by rfl) (by rfl) (by rfl) rfl), ag_ (apc (first := []) (cap := []) (vs := [(Qgl x12), Qif]) rfl Qnn (Qfu N x12.1 ([100, 30]) _ hf70) rfl rfl (nlc (nld Qaa _) (nlc (nld Qaa _) nl0)) nll rfl), asb hb72 (amv rfl), ag_ (apc (first := []) (cap := []) (vs := [(Qi3 x10), (Qff x10), (Qgl x12), I x12.2.1, (Ql9 x12)]) rfl Qt4 (Qge N x10.1 x10.2 x12.1 x12.2.1 x12.2.2.1 _ hf73) rfl rfl (nlc (nld Qaa _) (nlc (nld Qan _) (nlc (nld Qaa _) (nlc nll (nlc (nld Qaa _) nl0))))) nll rfl), asb hb75 (amv rfl), asb hb76 (amv rfl), trivial⟩ ?_
                rcases bft ((x14.1 != 62000)) with hc77 | hc77
                ·replace h := Qav hc77 h
                 refine wft hc77 (by kernel_rfl) ?_
                 refine wx tbk [] trivial ?_
                 refine Qab ?_
                 refine Qau ?_
                 obtain rfl := osi h
                 exact fend ⟨[B false], ⟨rot (by kernel_rfl), trivial⟩, rfl⟩ nll
                ·replace h := Qaw hc77 h
                 refine wfn hc77 (by kernel_rfl) ?_
                 refine Qao ?_
                 refine thn ?_
                 exact ⟨(), h, (mto (n := 246) [(1, .ref 0 4 0 0), (11, (Qff x10))] [0] [(Quy x4)] hφ0 (pc (.rn (rqr rfl)) (pc (.rn (.plain _ (nld Qan _))) pn)) (qc (spb (lc rwl (lc rwl (lc rwl (lc rwl ln))))) qn))⟩
end Go.Proofs.Ytlhakkkjgdbdpaa
