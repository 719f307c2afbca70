/-
  Functions of the program: what they compute, as plain functions, and that they do. No conditions.
-/
import Derived.Test.YtmbhnllcfmiajaaX6
namespace Go.Proofs.Ytmbhnllcfmiajaa
set_option maxRecDepth 100000
set_option maxHeartbeats 4000000
open Go.RowKit
def Qc7 (N : Nat) (x9 : (GTick × Int × Int)) (k34 : Int × Int × Int → Option Bool) : Nat → Int → Int → Int → Int → Option Bool
  | 0, _, _, _, _ => none
  | n53 + 1, y45, y46, y47, y48 =>
    bif (decide (y48 < (x9.1.Lost.length : Int))) then
     (getI x9.1.Lost y48).bind fun x55 =>
     Qcc (fun _ =>
       (some (w64 ((w64 (y46 + x55.Silica)) + x55.Scale))).bind fun x60 =>
       Qc7 N x9 k34 n53 (w64 (y45 + x55.Heat)) x60 (w64 (y47 + x55.Gas)) (w64 (y48 + 1))) fun k59 : Unit → Option Bool =>
     bif (decide (x55.Heat < 0)) then
      some false
     else
      bif (decide (x55.Silica < 0)) then
       some false
      else
       bif (decide (x55.Gas < 0)) then
        some false
       else
        bif (decide (x55.Scale < 0)) then
         some false
        else
         k59 ()
    else
     k34 (y45, y46, y47)
def Qc6 (N : Nat) (x9 : (GTick × Int × Int)) (x21 : ((List GPort) × Int)) (k30 : Int × Int × Int × Int → Option Bool) : Nat → Int → Int → Int → Int → Int → Option Bool
  | 0, _, _, _, _, _ => none
  | n76 + 1, y66, y67, y68, y69, y70 =>
    bif (decide (y70 < (x21.1.length : Int))) then
     (getI x21.1 y70).bind fun x78 =>
     Qcc (fun _ =>
       (getI x9.1.Out x78.Element).bind fun x83 =>
       (getI x83 x78.Outlet).bind fun x87 =>
       (Qem N x87).bind fun x92 =>
       bif (x92 != 0) then
        some false
       else
        Qc6 N x9 x21 k30 n76 (w64 (y66 + x87.Mass)) (w64 (y67 + x87.Heat)) (w64 (y68 + x87.Silica)) (w64 (y69 + x87.Gas)) (w64 (y70 + 1))) fun k82 : Unit → Option Bool =>
     bif (decide (x78.Element < 0)) then
      some false
     else
      bif (decide (x78.Element ≥ (x9.1.Out.length : Int))) then
       some false
      else
       bif (decide (x78.Outlet < 0)) then
        some false
       else
        (getI x9.1.Out x78.Element).bind fun x97 =>
        bif (decide (x78.Outlet ≥ (x97.length : Int))) then
         some false
        else
         k82 ()
    else
     k30 (y66, y67, y68, y69)
def Qg1 (N : Nat) (p0 : GNet) (p1 : (List Int)) (p2 : (List GStream)) : Option Bool :=
  Qcc (fun _ =>
    (Qh0 N p0).bind fun x3 =>
    (Qhz N p1).bind fun x5 =>
    (Qgb N p2).bind fun x7 =>
    (Qkx N x3 x5 x7).bind fun x9 =>
    (Qh0 N p0).bind fun x11 =>
    (Qhz N p1).bind fun x13 =>
    (Qgb N p2).bind fun x15 =>
    (Qhq N x11 x13 x15).bind fun x17 =>
    (Qh0 N p0).bind fun x19 =>
    (Qgr N x19).bind fun x21 =>
    bif (x9.2.2 != x17.2.2.2) then
     some false
    else
     bif (x9.2.2 != 0) then
      (Qgl 2000 ).bind fun x25 =>
      some x25
     else
      Qcc (fun ⟨y26, y27, y28, y29⟩ =>
        Qcc (fun ⟨y31, y32, y33⟩ =>
          bif (x21.2 == 0) then
           bif (([x17.1.Mass, x17.1.Heat, x17.1.Silica, x17.1.Gas] : List Int) == [y26, y31, y32, y33]) then
            bif (x17.1.Mass == x17.2.1.Mass) then
             bif (x17.1.Heat == (w64 (x17.2.1.Heat + x17.2.2.1.Heat))) then
              (some (w64 ((w64 (x17.2.1.Silica + x17.2.2.1.Silica)) + x17.2.2.1.Scale))).bind fun x39 =>
              bif (x17.1.Silica == x39) then
               bif (x17.1.Gas == (w64 (x17.2.1.Gas + x17.2.2.1.Gas))) then
                (Qgl 2000 ).bind fun x44 =>
                some x44
               else
                some false
              else
               some false
             else
              some false
            else
             some false
           else
            some false
          else
           some false) fun k34 : Int × Int × Int → Option Bool =>
        Qc7 N x9 k34 N y27 y28 y29 0) fun k30 : Int × Int × Int × Int → Option Bool =>
      Qc6 N x9 x21 k30 N 0 0 0 0 0) fun k1 : Unit → Option Bool =>
  (Qi6 N p0 p2).bind fun x103 =>
  bif (!x103) then
   (Qgl 2000 ).bind fun x106 =>
   some x106
  else
   bif (decide ((p1.length : Int) > 25)) then
    (Qgl 2000 ).bind fun x109 =>
    some x109
   else
    k1 ()
def Qps (p1 : (List Int)) : AV := .dat 1 ((p1 : List Int).map Qam)
def Ql8 (p2 : (List GStream)) : AV := .dat 4 ((p2 : List GStream).map Qab)
def Q4a (p0 : GNet) : AV := .dat 5 ((p0.Table : List GRow).map Qa8)
def Q39 (p0 : GNet) : AV := .dat 7 ((p0.Elements : List GElement).map Qad)
def Ql9 (p0 : GNet) : AV := .agg [(Q4a p0), (Q39 p0)]
def Q37 (x3 : GNet) : AV := .agg [(.dat 5 ((x3.Table : List GRow).map Qa8)), (.dat 7 ((x3.Elements : List GElement).map Qad))]
def Q35 (x5 : (List Int)) : AV := .dat 1 ((x5 : List Int).map Qam)
def Qwy (x7 : (List GStream)) : AV := .dat 4 ((x7 : List GStream).map Qab)
def Qmj (x9 : (GTick × Int × Int)) : AV := .dat 1 ((x9.1.Out : List (List GStream)).map Qae)
def Qsw (x9 : (GTick × Int × Int)) : AV := .dat 4 ((x9.1.Lost : List GLost).map Qa2)
def Qwx (x11 : GNet) : AV := .agg [(.dat 5 ((x11.Table : List GRow).map Qa8)), (.dat 7 ((x11.Elements : List GElement).map Qad))]
def Qww (x15 : (List GStream)) : AV := .dat 4 ((x15 : List GStream).map Qab)
def Qmi (x17 : (GStream × GStream × GLost × Int)) : AV := .agg [(I (x17.1.Mass)), (I (x17.1.Heat)), (I (x17.1.Silica)), (I (x17.1.Gas))]
def Qwv (x19 : GNet) : AV := .agg [(.dat 5 ((x19.Table : List GRow).map Qa8)), (.dat 7 ((x19.Elements : List GElement).map Qad))]
def Qkq (x21 : ((List GPort) × Int)) : AV := .dat 2 ((x21.1 : List GPort).map Qav)
def Qhc (x9 : (GTick × Int × Int)) : Slot := .own 3 [[(Qmj x9), (Qsw x9), (.dat 1 ((x9.1.State : List Int).map Qam))]]
def Qgu (x17 : (GStream × GStream × GLost × Int)) : Slot := .own 4 [[(I (x17.1.Mass)), (I (x17.1.Heat)), (I (x17.1.Silica)), (I (x17.1.Gas))]]
def Qgt (x17 : (GStream × GStream × GLost × Int)) : Slot := .own 4 [[(I (x17.2.1.Mass)), (I (x17.2.1.Heat)), (I (x17.2.1.Silica)), (I (x17.2.1.Gas))]]
def Qgs (x17 : (GStream × GStream × GLost × Int)) : Slot := .own 4 [[(I (x17.2.2.1.Heat)), (I (x17.2.2.1.Silica)), (I (x17.2.2.1.Gas)), (I (x17.2.2.1.Scale))]]
def Qit (y26 : Int) (y31 : Int) (y32 : Int) (y33 : Int) : AV := .agg [(I (y26)), (I (y31)), (I (y32)), (I (y33))]
def Q38 (x55 : GLost) : Slot := .own 4 [[(I (x55.Heat)), (I (x55.Silica)), (I (x55.Gas)), (I (x55.Scale))]]
def Q36 (x87 : GStream) : AV := .agg [(I (x87.Mass)), (I (x87.Heat)), (I (x87.Silica)), (I (x87.Gas))]
theorem Qmu (N : Nat) (p0 : GNet) (p1 : (List Int)) (p2 : (List GStream)) (r : Bool) (h : Qg1 N p0 p1 p2 = some r) : Spec Try.prog 3 [(.agg (Qj0 p0)), (.dat 1 (p1.map Qam)), (.dat 4 (p2.map Qab))] [] (B r) [] := by
  refine Qah Try.func3 rfl 0 (nle rfl) (fun X φ0 w0 hφ0 hd0 => ?_)
  unfold Qg1 at h
  refine wx tbk [] trivial ?_
  obtain ⟨k1, hk_k1, h⟩ := jko h
  refine wjn (τ := Unit) (fun t => k1 t = some r) (fun _ => ⟨mk 236 [(1, (Qps p1)), (2, (Ql8 p2)), (3, .ref 0 2 0 0)], [(.own 2 [[(Q4a p0), (Q39 p0)]])]⟩) (fun t h => ?_) ?_
  ·subst hk_k1
   obtain ⟨x3, hf2, h⟩ := bno h
   obtain ⟨x5, hf4, h⟩ := bno h
   obtain ⟨x7, hf6, h⟩ := bno h
   obtain ⟨x9, hf8, h⟩ := bno h
   refine wx tbk [(1, rp [fu 9, (.tmp 36, (Ql9 p0))] (Q37 x3)), (3, rp [fu 10, (.tmp 38, (Qps p1))] (Q35 x5)), (5, rp [fu 11, (.tmp 40, (Ql8 p2))] (Qwy x7)), (6, rp [fu 8, (.tmp 37, (Q37 x3)), (.tmp 39, (Q35 x5)), (.tmp 41, (Qwy x7))] (.tup [(.agg [(Qmj x9), (Qsw x9), (.dat 1 ((x9.1.State : List Int).map Qam))]), I x9.2.1, I x9.2.2]))] ⟨apc (first := []) (cap := []) (vs := [(Ql9 p0)]) rfl Q54 (Qk1 N p0 _ hf2) rfl rfl (nlc (NLt.agg _ (nlc (nld Qai _) (nlc (nld Qaa _) nl0))) nl0) (NLt.agg _ (nlc (nld Qai _) (nlc (nld Qaa _) nl0))) rfl, apc (first := []) (cap := []) (vs := [(Qps p1)]) rfl Q6h (Qma N p1 _ hf4) rfl rfl (nlc (nld Qaf _) nl0) (nld Qaf _) rfl, apc (first := []) (cap := []) (vs := [(Ql8 p2)]) rfl Q6g (Qkl N p2 _ hf6) rfl rfl (nlc (nld Qac _) nl0) (nld Qac _) rfl, apc (first := []) (cap := []) (vs := [(Q37 x3), (Q35 x5), (Qwy x7)]) rfl Q56 (Qmq N x3 x5 x7 _ hf8) rfl rfl (nlc (NLt.agg _ (nlc (nld Qai _) (nlc (nld Qaa _) nl0))) (nlc (nld Qaf _) (nlc (nld Qac _) nl0))) (NLt.tup _ (nlc (NLt.agg _ (nlc (nld Qak _) (nlc (nld Qaw _) (nlc (nld Qaf _) nl0)))) (nlc nll (nlc nll nl0)))) rfl, trivial⟩ ?_
   obtain ⟨x11, hf10, h⟩ := bno h
   obtain ⟨x13, hf12, h⟩ := bno h
   obtain ⟨x15, hf14, h⟩ := bno h
   obtain ⟨x17, hf16, h⟩ := bno h
   refine wx tbk [(1, rp [fu 9, (.tmp 47, (Ql9 p0))] (Qwx x11)), (3, rp [fu 10, (.tmp 49, (Qps p1))] (.dat 1 ((x13 : List Int).map Qam))), (5, rp [fu 11, (.tmp 51, (Ql8 p2))] (Qww x15)), (6, rp [fu 12, (.tmp 48, (Qwx x11)), (.tmp 50, (.dat 1 ((x13 : List Int).map Qam))), (.tmp 52, (Qww x15))] (.tup [(Qmi x17), (.agg [I x17.2.1.Mass, I x17.2.1.Heat, I x17.2.1.Silica, I x17.2.1.Gas]), (.agg [I x17.2.2.1.Heat, I x17.2.2.1.Silica, I x17.2.2.1.Gas, I x17.2.2.1.Scale]), I x17.2.2.2]))] ⟨apc (first := []) (cap := []) (vs := [(Ql9 p0)]) rfl Q54 (Qk1 N p0 _ hf10) rfl rfl (nlc (NLt.agg _ (nlc (nld Qai _) (nlc (nld Qaa _) nl0))) nl0) (NLt.agg _ (nlc (nld Qai _) (nlc (nld Qaa _) nl0))) rfl, apc (first := []) (cap := []) (vs := [(Qps p1)]) rfl Q6h (Qma N p1 _ hf12) rfl rfl (nlc (nld Qaf _) nl0) (nld Qaf _) rfl, apc (first := []) (cap := []) (vs := [(Ql8 p2)]) rfl Q6g (Qkl N p2 _ hf14) rfl rfl (nlc (nld Qac _) nl0) (nld Qac _) rfl, apc (first := []) (cap := []) (vs := [(Qwx x11), (.dat 1 ((x13 : List Int).map Qam)), (Qww x15)]) rfl Zev (Qpb N x11 x13 x15 _ hf16) rfl rfl (nlc (NLt.agg _ (nlc (nld Qai _) (nlc (nld Qaa _) nl0))) (nlc (nld Qaf _) (nlc (nld Qac _) nl0))) (NLt.tup _ (nlc (NLt.agg _ (nlc nll (nlc nll (nlc nll (nlc nll nl0))))) (nlc (NLt.agg _ (nlc nll (nlc nll (nlc nll (nlc nll nl0))))) (nlc (NLt.agg _ (nlc nll (nlc nll (nlc nll (nlc nll nl0))))) (nlc nll nl0))))) rfl, trivial⟩ ?_
   obtain ⟨x19, hf18, h⟩ := bno h
   obtain ⟨x21, hf20, h⟩ := bno h
   refine wx tbk [(1, rp [fu 9, (.tmp 59, (Ql9 p0))] (Qwv x19)), (2, rp [fu 13, (.tmp 60, (Qwv x19))] (.tup [(Qkq x21), I x21.2]))] ⟨apc (first := []) (cap := []) (vs := [(Ql9 p0)]) rfl Q54 (Qk1 N p0 _ hf18) rfl rfl (nlc (NLt.agg _ (nlc (nld Qai _) (nlc (nld Qaa _) nl0))) nl0) (NLt.agg _ (nlc (nld Qai _) (nlc (nld Qaa _) nl0))) rfl, apc (first := []) (cap := []) (vs := [(Qwv x19)]) rfl Q6f (Qng N x19 _ hf20) rfl rfl (nlc (NLt.agg _ (nlc (nld Qai _) (nlc (nld Qaa _) nl0))) nl0) (NLt.tup _ (nlc (nld Qbq _) (nlc nll nl0))) rfl, trivial⟩ ?_
   refine wsq ?_
   refine wx tbk [] trivial ?_
   rcases bft ((x9.2.2 != x17.2.2.2)) with hc22 | hc22
   ·replace h := Qa6 hc22 h
    refine wft hc22 (by kernel_rfl) ?_
    refine wx tbk [] trivial ?_
    refine Qag ?_
    refine Qaj ?_
    obtain rfl := osi h
    exact fend ⟨[B false], ⟨rot (by kernel_rfl), trivial⟩, rfl⟩ nll
   ·replace h := Qa7 hc22 h
    refine wfn hc22 (by kernel_rfl) ?_
    refine Qas ?_
    refine thn ?_
    refine wsq ?_
    refine wx tbk [] trivial ?_
    rcases bft ((x9.2.2 != 0)) with hc23 | hc23
    ·replace h := Qa6 hc23 h
     refine wft hc23 (by kernel_rfl) ?_
     obtain ⟨x25, hf24, h⟩ := bno h
     refine wx tbk [(0, rp [fu 7] (B x25))] ⟨apc (first := []) (cap := []) (vs := []) rfl Q0c (Qht 2000  _ hf24) rfl rfl nl0 nll rfl, trivial⟩ ?_
     refine Qag ?_
     refine Qaj ?_
     obtain rfl := osi h
     exact fend ⟨[B x25], ⟨rot (by kernel_rfl), trivial⟩, rfl⟩ nll
    ·replace h := Qa7 hc23 h
     refine wfn hc23 (by kernel_rfl) ?_
     refine Qas ?_
     refine thn ?_
     refine wx tbk [] trivial ?_
     obtain ⟨k30, hk_k30, h⟩ := jko h
     refine wjn (τ := Int × Int × Int × Int) (fun t => k30 t = some r) (fun ⟨y26, y27, y28, y29⟩ => ⟨mk 236 [(7, .ref 0 3 0 0), (10, .ref 1 4 0 0), (11, .ref 2 4 0 0), (12, .ref 3 4 0 0), (15, I x21.2), (16, I y26), (17, I y27), (18, I y28), (19, I y29)], [(Qhc x9), (Qgu x17), (Qgt x17), (Qgs x17)]⟩) (fun t h => ?_) ?_
     ·subst hk_k30
      obtain ⟨y26, y27, y28, y29⟩ := t
      obtain ⟨k34, hk_k34, h⟩ := jko h
      refine wjn (τ := Int × Int × Int) (fun t => k34 t = some r) (fun ⟨y31, y32, y33⟩ => ⟨mk 236 [(10, .ref 0 4 0 0), (11, .ref 1 4 0 0), (12, .ref 2 4 0 0), (15, I x21.2), (16, I y26), (17, I y31), (18, I y32), (19, I y33)], [(Qgu x17), (Qgt x17), (Qgs x17)]⟩) (fun t h => ?_) ?_
      ·subst hk_k34
       obtain ⟨y31, y32, y33⟩ := t
       rcases bft ((x21.2 == 0)) with hb35 | hb35
       ·replace h := Qa6 hb35 h
        rcases bft ((([x17.1.Mass, x17.1.Heat, x17.1.Silica, x17.1.Gas] : List Int) == [y26, y31, y32, y33])) with hb36 | hb36
        ·replace h := Qa6 hb36 h
         rcases bft ((x17.1.Mass == x17.2.1.Mass)) with hb37 | hb37
         ·replace h := Qa6 hb37 h
          rcases bft ((x17.1.Heat == (w64 (x17.2.1.Heat + x17.2.2.1.Heat)))) with hb38 | hb38
          ·replace h := Qa6 hb38 h
           obtain ⟨x39, hl40, h⟩ := bno h
           rcases bft ((x17.1.Silica == x39)) with hb41 | hb41
           ·replace h := Qa6 hb41 h
            rcases bft ((x17.1.Gas == (w64 (x17.2.1.Gas + x17.2.2.1.Gas)))) with hb42 | hb42
            ·replace h := Qa6 hb42 h
             obtain ⟨x44, hf43, h⟩ := bno h
             refine wx tbk [(2, rp [(.tmp 183, (B ((x21.2 == 0))))] (B true)), (8, rp [(.tmp 184, B true), (.tmp 186, I y26), (.tmp 187, I y31), (.tmp 188, I y32), (.tmp 189, I y33)] (Qit y26 y31 y32 y33)), (9, rp [(.tmp 184, B true), (.tmp 185, (Qmi x17)), (.tmp 190, (Qit y26 y31 y32 y33))] (B ((([x17.1.Mass, x17.1.Heat, x17.1.Silica, x17.1.Gas] : List Int) == [y26, y31, y32, y33])))), (11, rp [(.tmp 192, (B ((([x17.1.Mass, x17.1.Heat, x17.1.Silica, x17.1.Gas] : List Int) == [y26, y31, y32, y33]))))] (B true)), (18, rp [(.tmp 199, (B ((x17.1.Mass == x17.2.1.Mass))))] (B true)), (28, rp [(.tmp 209, (B ((x17.1.Heat == (w64 (x17.2.1.Heat + x17.2.2.1.Heat))))))] (B true)), (38, rp [(.tmp 210, B true), (.tmp 217, (I (w64 (x17.2.1.Silica + x17.2.2.1.Silica)))), (.tmp 219, I x17.2.2.1.Scale)] (I x39)), (41, rp [(.tmp 222, (B ((x17.1.Silica == x39))))] (B true)), (51, rp [(.tmp 232, (B ((x17.1.Gas == (w64 (x17.2.1.Gas + x17.2.2.1.Gas))))))] (B true)), (52, rp [(.tmp 233, B true), fu 7] (B x44))] ⟨asb hb35 (amv rfl), ag_ (Qar (vs := [I y26, I y31, I y32, I y33]) rfl ts48 tz48 rfl (by rfl) rfl), ag_ (Qdo (ls := [x17.1.Mass, x17.1.Heat, x17.1.Silica, x17.1.Gas]) (ks := [y26, y31, y32, y33]) rfl rfl Qoh (by kernel_rfl) rfl rfl), asb hb36 (amv rfl), asb hb37 (amv rfl), asb hb38 (amv rfl), Qhw hl40 (ag_ (abn rfl rfl)), asb hb41 (amv rfl), asb hb42 (amv rfl), ag_ (apc (first := []) (cap := []) (vs := []) rfl Q0c (Qht 2000  _ hf43) rfl rfl nl0 nll rfl), trivial⟩ ?_
             refine Qag ?_
             obtain rfl := osi h
             exact fend ⟨[B x44], ⟨rot (by kernel_rfl), trivial⟩, rfl⟩ nll
            ·replace h := Qa7 hb42 h
             refine wx tbk [(2, rp [(.tmp 183, (B ((x21.2 == 0))))] (B true)), (8, rp [(.tmp 184, B true), (.tmp 186, I y26), (.tmp 187, I y31), (.tmp 188, I y32), (.tmp 189, I y33)] (Qit y26 y31 y32 y33)), (9, rp [(.tmp 184, B true), (.tmp 185, (Qmi x17)), (.tmp 190, (Qit y26 y31 y32 y33))] (B ((([x17.1.Mass, x17.1.Heat, x17.1.Silica, x17.1.Gas] : List Int) == [y26, y31, y32, y33])))), (11, rp [(.tmp 192, (B ((([x17.1.Mass, x17.1.Heat, x17.1.Silica, x17.1.Gas] : List Int) == [y26, y31, y32, y33]))))] (B true)), (18, rp [(.tmp 199, (B ((x17.1.Mass == x17.2.1.Mass))))] (B true)), (28, rp [(.tmp 209, (B ((x17.1.Heat == (w64 (x17.2.1.Heat + x17.2.2.1.Heat))))))] (B true)), (38, rp [(.tmp 210, B true), (.tmp 217, (I (w64 (x17.2.1.Silica + x17.2.2.1.Silica)))), (.tmp 219, I x17.2.2.1.Scale)] (I x39)), (41, rp [(.tmp 222, (B ((x17.1.Silica == x39))))] (B true)), (51, rp [(.tmp 232, (B ((x17.1.Gas == (w64 (x17.2.1.Gas + x17.2.2.1.Gas))))))] (B false))] ⟨asb hb35 (amv rfl), ag_ (Qar (vs := [I y26, I y31, I y32, I y33]) rfl ts48 tz48 rfl (by rfl) rfl), ag_ (Qdo (ls := [x17.1.Mass, x17.1.Heat, x17.1.Silica, x17.1.Gas]) (ks := [y26, y31, y32, y33]) rfl rfl Qoh (by kernel_rfl) rfl rfl), asb hb36 (amv rfl), asb hb37 (amv rfl), asb hb38 (amv rfl), Qhw hl40 (ag_ (abn rfl rfl)), asb hb41 (amv rfl), asb hb42 (amv rfl), trivial⟩ ?_
             refine Qag ?_
             obtain rfl := osi h
             exact fend ⟨[B false], ⟨rot (by kernel_rfl), trivial⟩, rfl⟩ nll
           ·replace h := Qa7 hb41 h
            refine wx tbk [(2, rp [(.tmp 183, (B ((x21.2 == 0))))] (B true)), (8, rp [(.tmp 184, B true), (.tmp 186, I y26), (.tmp 187, I y31), (.tmp 188, I y32), (.tmp 189, I y33)] (Qit y26 y31 y32 y33)), (9, rp [(.tmp 184, B true), (.tmp 185, (Qmi x17)), (.tmp 190, (Qit y26 y31 y32 y33))] (B ((([x17.1.Mass, x17.1.Heat, x17.1.Silica, x17.1.Gas] : List Int) == [y26, y31, y32, y33])))), (11, rp [(.tmp 192, (B ((([x17.1.Mass, x17.1.Heat, x17.1.Silica, x17.1.Gas] : List Int) == [y26, y31, y32, y33]))))] (B true)), (18, rp [(.tmp 199, (B ((x17.1.Mass == x17.2.1.Mass))))] (B true)), (28, rp [(.tmp 209, (B ((x17.1.Heat == (w64 (x17.2.1.Heat + x17.2.2.1.Heat))))))] (B true)), (38, rp [(.tmp 210, B true), (.tmp 217, (I (w64 (x17.2.1.Silica + x17.2.2.1.Silica)))), (.tmp 219, I x17.2.2.1.Scale)] (I x39)), (41, rp [(.tmp 222, (B ((x17.1.Silica == x39))))] (B false))] ⟨asb hb35 (amv rfl), ag_ (Qar (vs := [I y26, I y31, I y32, I y33]) rfl ts48 tz48 rfl (by rfl) rfl), ag_ (Qdo (ls := [x17.1.Mass, x17.1.Heat, x17.1.Silica, x17.1.Gas]) (ks := [y26, y31, y32, y33]) rfl rfl Qoh (by kernel_rfl) rfl rfl), asb hb36 (amv rfl), asb hb37 (amv rfl), asb hb38 (amv rfl), Qhw hl40 (ag_ (abn rfl rfl)), asb hb41 (amv rfl), trivial⟩ ?_
            refine Qag ?_
            obtain rfl := osi h
            exact fend ⟨[B false], ⟨rot (by kernel_rfl), trivial⟩, rfl⟩ nll
          ·replace h := Qa7 hb38 h
           refine wx tbk [(2, rp [(.tmp 183, (B ((x21.2 == 0))))] (B true)), (8, rp [(.tmp 184, B true), (.tmp 186, I y26), (.tmp 187, I y31), (.tmp 188, I y32), (.tmp 189, I y33)] (Qit y26 y31 y32 y33)), (9, rp [(.tmp 184, B true), (.tmp 185, (Qmi x17)), (.tmp 190, (Qit y26 y31 y32 y33))] (B ((([x17.1.Mass, x17.1.Heat, x17.1.Silica, x17.1.Gas] : List Int) == [y26, y31, y32, y33])))), (11, rp [(.tmp 192, (B ((([x17.1.Mass, x17.1.Heat, x17.1.Silica, x17.1.Gas] : List Int) == [y26, y31, y32, y33]))))] (B true)), (18, rp [(.tmp 199, (B ((x17.1.Mass == x17.2.1.Mass))))] (B true)), (28, rp [(.tmp 209, (B ((x17.1.Heat == (w64 (x17.2.1.Heat + x17.2.2.1.Heat))))))] (B false))] ⟨asb hb35 (amv rfl), ag_ (Qar (vs := [I y26, I y31, I y32, I y33]) rfl ts48 tz48 rfl (by rfl) rfl), ag_ (Qdo (ls := [x17.1.Mass, x17.1.Heat, x17.1.Silica, x17.1.Gas]) (ks := [y26, y31, y32, y33]) rfl rfl Qoh (by kernel_rfl) rfl rfl), asb hb36 (amv rfl), asb hb37 (amv rfl), asb hb38 (amv rfl), trivial⟩ ?_
           refine Qag ?_
           obtain rfl := osi h
           exact fend ⟨[B false], ⟨rot (by kernel_rfl), trivial⟩, rfl⟩ nll
         ·replace h := Qa7 hb37 h
          refine wx tbk [(2, rp [(.tmp 183, (B ((x21.2 == 0))))] (B true)), (8, rp [(.tmp 184, B true), (.tmp 186, I y26), (.tmp 187, I y31), (.tmp 188, I y32), (.tmp 189, I y33)] (Qit y26 y31 y32 y33)), (9, rp [(.tmp 184, B true), (.tmp 185, (Qmi x17)), (.tmp 190, (Qit y26 y31 y32 y33))] (B ((([x17.1.Mass, x17.1.Heat, x17.1.Silica, x17.1.Gas] : List Int) == [y26, y31, y32, y33])))), (11, rp [(.tmp 192, (B ((([x17.1.Mass, x17.1.Heat, x17.1.Silica, x17.1.Gas] : List Int) == [y26, y31, y32, y33]))))] (B true)), (18, rp [(.tmp 199, (B ((x17.1.Mass == x17.2.1.Mass))))] (B false))] ⟨asb hb35 (amv rfl), ag_ (Qar (vs := [I y26, I y31, I y32, I y33]) rfl ts48 tz48 rfl (by rfl) rfl), ag_ (Qdo (ls := [x17.1.Mass, x17.1.Heat, x17.1.Silica, x17.1.Gas]) (ks := [y26, y31, y32, y33]) rfl rfl Qoh (by kernel_rfl) rfl rfl), asb hb36 (amv rfl), asb hb37 (amv rfl), trivial⟩ ?_
          refine Qag ?_
          obtain rfl := osi h
          exact fend ⟨[B false], ⟨rot (by kernel_rfl), trivial⟩, rfl⟩ nll
        ·replace h := Qa7 hb36 h
         refine wx tbk [(2, rp [(.tmp 183, (B ((x21.2 == 0))))] (B true)), (8, rp [(.tmp 184, B true), (.tmp 186, I y26), (.tmp 187, I y31), (.tmp 188, I y32), (.tmp 189, I y33)] (Qit y26 y31 y32 y33)), (9, rp [(.tmp 184, B true), (.tmp 185, (Qmi x17)), (.tmp 190, (Qit y26 y31 y32 y33))] (B ((([x17.1.Mass, x17.1.Heat, x17.1.Silica, x17.1.Gas] : List Int) == [y26, y31, y32, y33])))), (11, rp [(.tmp 192, (B ((([x17.1.Mass, x17.1.Heat, x17.1.Silica, x17.1.Gas] : List Int) == [y26, y31, y32, y33]))))] (B false))] ⟨asb hb35 (amv rfl), ag_ (Qar (vs := [I y26, I y31, I y32, I y33]) rfl ts48 tz48 rfl (by rfl) rfl), ag_ (Qdo (ls := [x17.1.Mass, x17.1.Heat, x17.1.Silica, x17.1.Gas]) (ks := [y26, y31, y32, y33]) rfl rfl Qoh (by kernel_rfl) rfl rfl), asb hb36 (amv rfl), trivial⟩ ?_
         refine Qag ?_
         obtain rfl := osi h
         exact fend ⟨[B false], ⟨rot (by kernel_rfl), trivial⟩, rfl⟩ nll
       ·replace h := Qa7 hb35 h
        refine wx tbk [(2, rp [(.tmp 183, (B ((x21.2 == 0))))] (B false))] ⟨asb hb35 (amv rfl), trivial⟩ ?_
        refine Qag ?_
        obtain rfl := osi h
        exact fend ⟨[B false], ⟨rot (by kernel_rfl), trivial⟩, rfl⟩ nll
      ·skip
       refine wx tbk [] trivial ?_
       refine Qao ?_
       refine wmr (mto (n := 236) (l' := [(7, .ref 0 3 0 0), (10, .ref 1 4 0 0), (11, .ref 2 4 0 0), (12, .ref 3 4 0 0), (15, I x21.2), (16, I y26), (17, I y27), (18, I y28), (19, I y29), (23, I 0)]) (own' := [(Qhc x9), (Qgu x17), (Qgt x17), (Qgs x17)]) [(7, .ref 0 3 0 0), (10, .ref 1 4 0 0), (11, .ref 2 4 0 0), (12, .ref 3 4 0 0), (15, I x21.2), (16, I y26), (17, I y27), (18, I y28), (19, I y29), (23, I 0)] [0, 1, 2, 3] [(Qhc x9), (Qgu x17), (Qgt x17), (Qgs x17)] hφ0 (pc (.rn (rqr rfl)) (pc (.rn (rqr rfl)) (pc (.rn (rqr rfl)) (pc (.rn (rqr rfl)) (pc rwl (pc rwl (pc rwl (pc rwl (pc rwl (pc rwl pn)))))))))) (qc (spb (lc (.rn (.plain _ (nld Qak _))) (lc (.rn (.plain _ (nld Qaw _))) (lc (.rn (.plain _ (nld Qaf _))) ln)))) (qc (spb (lc rwl (lc rwl (lc rwl (lc rwl ln))))) (qc (spb (lc rwl (lc rwl (lc rwl (lc rwl ln))))) (qc (spb (lc rwl (lc rwl (lc rwl (lc rwl ln))))) qn))))) ?_
       refine Qc0 (τ := Int × Int × Int × Int) (fun n t => Qc7 N x9 k34 n t.1 t.2.1 t.2.2.1 t.2.2.2 = some r) (fun ⟨y45, y46, y47, y48⟩ => ⟨mk 236 [(7, .ref 0 3 0 0), (10, .ref 1 4 0 0), (11, .ref 2 4 0 0), (12, .ref 3 4 0 0), (15, I x21.2), (16, I y26), (17, I y45), (18, I y46), (19, I y47), (23, I y48)], [(Qhc x9), (Qgu x17), (Qgt x17), (Qgs x17)]⟩) (fun t h => by rw [Qc7] at h; cases h) (fun n53 ih t h => ?_) N (y27, y28, y29, 0) h
       obtain ⟨y45, y46, y47, y48⟩ := t
       rw [Qc7] at h
       skip
       refine wsq ?_
       refine wx tbk [(3, rp [(.tmp 139, (Qsw x9))] (I ((x9.1.Lost.length : Int))))] ⟨alm (c := Qa2) (l := x9.1.Lost) (aln rfl Try.underlying32 rfl), trivial⟩ ?_
       rcases bft ((decide (y48 < (x9.1.Lost.length : Int)))) with hc54 | hc54
       ·replace h := Qa6 hc54 h
        refine wft hc54 (by kernel_rfl) ?_
        refine Qas ?_
        refine thn ?_
        refine wsq ?_
        refine Qao ?_
        obtain ⟨x55, hg56, h⟩ := bno h
        obtain ⟨hi57, hj58⟩ := gsm hg56
        refine wx tbk [(3, rp [(.tmp 145, (Qsw x9)), (.tmp 146, I y48)] (.dptr (Qa2 (x55)) 0))] ⟨aid rfl Try.underlying32 ti50 rfl rfl hi57 (mgt Qa2 hj58) rfl, trivial⟩ ?_
        obtain ⟨k59, hk_k59, h⟩ := jko h
        refine wjn (τ := Unit) (fun t => k59 t = some r) (fun _ => ⟨mk 236 [(7, .ref 0 3 0 0), (10, .ref 1 4 0 0), (11, .ref 2 4 0 0), (12, .ref 3 4 0 0), (15, I x21.2), (16, I y26), (17, I y45), (18, I y46), (19, I y47), (23, I y48), (24, .ref 4 4 0 0)], [(Qhc x9), (Qgu x17), (Qgt x17), (Qgs x17), (Q38 x55)]⟩) (fun t h => ?_) ?_
        ·subst hk_k59
         obtain ⟨x60, hl61, h⟩ := bno h
         refine wy1 tbk [(16, rp [(.tmp 177, (I (w64 ((w64 (y46 + x55.Silica)) + x55.Scale))))] (I x60))] ⟨Qhw hl61 (aas rfl), trivial⟩ ?_
         refine bln ?_
         refine thn ?_
         refine wx1 tbk [] trivial ?_
         refine thn ?_
         exact arm (mto (n := 236) [(7, .ref 0 3 0 0), (10, .ref 1 4 0 0), (11, .ref 2 4 0 0), (12, .ref 3 4 0 0), (15, I x21.2), (16, I y26), (17, (I (w64 (y45 + x55.Heat)))), (18, I x60), (19, (I (w64 (y47 + x55.Gas)))), (23, (I (w64 (y48 + 1))))] [0, 1, 2, 3] [(Qhc x9), (Qgu x17), (Qgt x17), (Qgs x17)] hφ0 (pc (.rn (rqr rfl)) (pc (.rn (rqr rfl)) (pc (.rn (rqr rfl)) (pc (.rn (rqr rfl)) (pc rwl (pc rwl (pc rwl (pc rwl (pc rwl (pc rwl pn)))))))))) (qc (spb (lc (.rn (.plain _ (nld Qak _))) (lc (.rn (.plain _ (nld Qaw _))) (lc (.rn (.plain _ (nld Qaf _))) ln)))) (qc (spb (lc rwl (lc rwl (lc rwl (lc rwl ln))))) (qc (spb (lc rwl (lc rwl (lc rwl (lc rwl ln))))) (qc (spb (lc rwl (lc rwl (lc rwl (lc rwl ln))))) qn))))) (ih (w64 (y45 + x55.Heat), x60, w64 (y47 + x55.Gas), w64 (y48 + 1)) h)
        ·skip
         rcases bft ((decide (x55.Heat < 0))) with hb62 | hb62
         ·replace h := Qa6 hb62 h
          refine wx tbk [(3, rp [(.tmp 151, (B ((decide (x55.Heat < 0)))))] (B true))] ⟨asb hb62 (amv rfl), trivial⟩ ?_
          refine Qch (by kernel_rfl) ?_
          refine wx tbk [] trivial ?_
          refine Qag ?_
          refine Qaj ?_
          refine Qax ?_
          refine Qaj ?_
          refine Qaj ?_
          refine Qax ?_
          refine Qaj ?_
          obtain rfl := osi h
          exact fend ⟨[B false], ⟨rot (by kernel_rfl), trivial⟩, rfl⟩ nll
         ·replace h := Qa7 hb62 h
          rcases bft ((decide (x55.Silica < 0))) with hb63 | hb63
          ·replace h := Qa6 hb63 h
           refine wx tbk [(3, rp [(.tmp 151, (B ((decide (x55.Heat < 0)))))] (B false)), (8, rp [(.tmp 156, (B ((decide (x55.Silica < 0)))))] (B true))] ⟨asb hb62 (amv rfl), asb hb63 (amv rfl), trivial⟩ ?_
           refine Qch (by kernel_rfl) ?_
           refine wx tbk [] trivial ?_
           refine Qag ?_
           refine Qaj ?_
           refine Qax ?_
           refine Qaj ?_
           refine Qaj ?_
           refine Qax ?_
           refine Qaj ?_
           obtain rfl := osi h
           exact fend ⟨[B false], ⟨rot (by kernel_rfl), trivial⟩, rfl⟩ nll
          ·replace h := Qa7 hb63 h
           rcases bft ((decide (x55.Gas < 0))) with hb64 | hb64
           ·replace h := Qa6 hb64 h
            refine wx tbk [(3, rp [(.tmp 151, (B ((decide (x55.Heat < 0)))))] (B false)), (8, rp [(.tmp 156, (B ((decide (x55.Silica < 0)))))] (B false)), (13, rp [(.tmp 161, (B ((decide (x55.Gas < 0)))))] (B true))] ⟨asb hb62 (amv rfl), asb hb63 (amv rfl), asb hb64 (amv rfl), trivial⟩ ?_
            refine Qch (by kernel_rfl) ?_
            refine wx tbk [] trivial ?_
            refine Qag ?_
            refine Qaj ?_
            refine Qax ?_
            refine Qaj ?_
            refine Qaj ?_
            refine Qax ?_
            refine Qaj ?_
            obtain rfl := osi h
            exact fend ⟨[B false], ⟨rot (by kernel_rfl), trivial⟩, rfl⟩ nll
           ·replace h := Qa7 hb64 h
            refine wx tbk [(3, rp [(.tmp 151, (B ((decide (x55.Heat < 0)))))] (B false)), (8, rp [(.tmp 156, (B ((decide (x55.Silica < 0)))))] (B false)), (13, rp [(.tmp 161, (B ((decide (x55.Gas < 0)))))] (B false))] ⟨asb hb62 (amv rfl), asb hb63 (amv rfl), asb hb64 (amv rfl), trivial⟩ ?_
            rcases bft ((decide (x55.Scale < 0))) with hc65 | hc65
            ·replace h := Qa6 hc65 h
             refine wft hc65 (by kernel_rfl) ?_
             refine wx tbk [] trivial ?_
             refine Qag ?_
             refine Qaj ?_
             refine Qax ?_
             refine Qaj ?_
             refine Qaj ?_
             refine Qax ?_
             refine Qaj ?_
             obtain rfl := osi h
             exact fend ⟨[B false], ⟨rot (by kernel_rfl), trivial⟩, rfl⟩ nll
            ·replace h := Qa7 hc65 h
             refine wfn hc65 (by kernel_rfl) ?_
             refine Qas ?_
             refine thn ?_
             exact ⟨(), h, (mto (n := 236) [(7, .ref 0 3 0 0), (10, .ref 1 4 0 0), (11, .ref 2 4 0 0), (12, .ref 3 4 0 0), (15, I x21.2), (16, I y26), (17, I y45), (18, I y46), (19, I y47), (23, I y48), (24, .ref 4 4 0 0)] [0, 1, 2, 3, 4] [(Qhc x9), (Qgu x17), (Qgt x17), (Qgs x17), (Q38 x55)] hφ0 (pc (.rn (rqr rfl)) (pc (.rn (rqr rfl)) (pc (.rn (rqr rfl)) (pc (.rn (rqr rfl)) (pc rwl (pc rwl (pc rwl (pc rwl (pc rwl (pc rwl (pc (.rn (rqr rfl)) pn))))))))))) (qc (spb (lc (.rn (.plain _ (nld Qak _))) (lc (.rn (.plain _ (nld Qaw _))) (lc (.rn (.plain _ (nld Qaf _))) ln)))) (qc (spb (lc rwl (lc rwl (lc rwl (lc rwl ln))))) (qc (spb (lc rwl (lc rwl (lc rwl (lc rwl ln))))) (qc (spb (lc rwl (lc rwl (lc rwl (lc rwl ln))))) (qc (spb (lc rwl (lc rwl (lc rwl (lc rwl ln))))) qn))))))⟩
       ·replace h := Qa7 hc54 h
        refine wfn hc54 (by kernel_rfl) ?_
        refine Qb4 ?_
        refine Qa5 ?_
        refine Qa5 ?_
        refine Qb3 rfl ?_
        refine thn ?_
        exact ⟨(y45, y46, y47), h, (mto (n := 236) [(10, .ref 1 4 0 0), (11, .ref 2 4 0 0), (12, .ref 3 4 0 0), (15, I x21.2), (16, I y26), (17, I y45), (18, I y46), (19, I y47)] [1, 2, 3] [(Qgu x17), (Qgt x17), (Qgs x17)] hφ0 (pc (.rn (rqr rfl)) (pc (.rn (rqr rfl)) (pc (.rn (rqr rfl)) (pc rwl (pc rwl (pc rwl (pc rwl (pc rwl pn)))))))) (qc (spb (lc rwl (lc rwl (lc rwl (lc rwl ln))))) (qc (spb (lc rwl (lc rwl (lc rwl (lc rwl ln))))) (qc (spb (lc rwl (lc rwl (lc rwl (lc rwl ln))))) qn))))⟩
     ·skip
      refine wx tbk [] trivial ?_
      refine Qao ?_
      refine wmr (mto (n := 236) (l' := [(7, .ref 0 3 0 0), (10, .ref 1 4 0 0), (11, .ref 2 4 0 0), (12, .ref 3 4 0 0), (14, (Qkq x21)), (15, I x21.2), (16, I 0), (17, I 0), (18, I 0), (19, I 0), (20, I 0)]) (own' := [(Qhc x9), (Qgu x17), (Qgt x17), (Qgs x17)]) [(7, .ref 1 3 0 0), (10, .ref 2 4 0 0), (11, .ref 3 4 0 0), (12, .ref 4 4 0 0), (14, (Qkq x21)), (15, I x21.2), (16, I 0), (17, I 0), (18, I 0), (19, I 0), (20, I 0)] [1, 2, 3, 4] [(Qhc x9), (Qgu x17), (Qgt x17), (Qgs x17)] hφ0 (pc (.rn (rqr rfl)) (pc (.rn (rqr rfl)) (pc (.rn (rqr rfl)) (pc (.rn (rqr rfl)) (pc (.rn (.plain _ (nld Qbq _))) (pc rwl (pc rwl (pc rwl (pc rwl (pc rwl (pc rwl pn))))))))))) (qc (spb (lc (.rn (.plain _ (nld Qak _))) (lc (.rn (.plain _ (nld Qaw _))) (lc (.rn (.plain _ (nld Qaf _))) ln)))) (qc (spb (lc rwl (lc rwl (lc rwl (lc rwl ln))))) (qc (spb (lc rwl (lc rwl (lc rwl (lc rwl ln))))) (qc (spb (lc rwl (lc rwl (lc rwl (lc rwl ln))))) qn))))) ?_
      refine Qc0 (τ := Int × Int × Int × Int × Int) (fun n t => Qc6 N x9 x21 k30 n t.1 t.2.1 t.2.2.1 t.2.2.2.1 t.2.2.2.2 = some r) (fun ⟨y66, y67, y68, y69, y70⟩ => ⟨mk 236 [(7, .ref 0 3 0 0), (10, .ref 1 4 0 0), (11, .ref 2 4 0 0), (12, .ref 3 4 0 0), (14, (Qkq x21)), (15, I x21.2), (16, I y66), (17, I y67), (18, I y68), (19, I y69), (20, I y70)], [(Qhc x9), (Qgu x17), (Qgt x17), (Qgs x17)]⟩) (fun t h => by rw [Qc6] at h; cases h) (fun n76 ih t h => ?_) N (0, 0, 0, 0, 0) h
      obtain ⟨y66, y67, y68, y69, y70⟩ := t
      rw [Qc6] at h
      skip
      refine wsq ?_
      refine wx tbk [(2, rp [(.tmp 71, (Qkq x21))] (I ((x21.1.length : Int))))] ⟨alm (c := Qav) (l := x21.1) (aln rfl Try.underlying53 rfl), trivial⟩ ?_
      rcases bft ((decide (y70 < (x21.1.length : Int)))) with hc77 | hc77
      ·replace h := Qa6 hc77 h
       refine wft hc77 (by kernel_rfl) ?_
       refine Qas ?_
       refine thn ?_
       refine wsq ?_
       refine Qao ?_
       obtain ⟨x78, hg79, h⟩ := bno h
       obtain ⟨hi80, hj81⟩ := gsm hg79
       refine wx tbk [(2, rp [(.tmp 76, (Qkq x21)), (.tmp 77, I y70)] (.dptr (Qav (x78)) 0))] ⟨aid rfl Try.underlying53 ti57 rfl rfl hi80 (mgt Qav hj81) rfl, trivial⟩ ?_
       obtain ⟨k82, hk_k82, h⟩ := jko h
       refine wjn (τ := Unit) (fun t => k82 t = some r) (fun _ => ⟨mk 236 [(7, .ref 0 3 0 0), (10, .ref 1 4 0 0), (11, .ref 2 4 0 0), (12, .ref 3 4 0 0), (14, (Qkq x21)), (15, I x21.2), (16, I y66), (17, I y67), (18, I y68), (19, I y69), (20, I y70), (21, .ref 4 2 0 0)], [(Qhc x9), (Qgu x17), (Qgt x17), (Qgs x17), (.own 2 [[I x78.Element, I x78.Outlet]])]⟩) (fun t h => ?_) ?_
       ·subst hk_k82
        obtain ⟨x83, hg84, h⟩ := bno h
        obtain ⟨hi85, hj86⟩ := gsm hg84
        obtain ⟨x87, hg88, h⟩ := bno h
        obtain ⟨hi89, hj90⟩ := gsm hg88
        refine wxd tbk [(4, rp [(.tmp 109, (Qmj x9)), (.tmp 111, I x78.Element)] (.dptr (Qae (x83)) 0)), (8, rp [(.tmp 113, (.dat 4 ((x83 : List GStream).map Qab))), (.tmp 115, I x78.Outlet)] (.dptr (Qab (x87)) 0))] ⟨aid rfl Try.underlying31 ti45 rfl rfl hi85 (mgt Qae hj86) rfl, aid rfl Try.underlying45 ti48 rfl rfl hi89 (mgt Qab hj90) rfl, trivial⟩ ?_
        refine wsq ?_
        obtain ⟨x92, hf91, h⟩ := bno h
        refine wx tbk [(1, rp [fu 14, (.tmp 118, (Q36 x87))] (I x92))] ⟨apc (first := []) (cap := []) (vs := [(Q36 x87)]) rfl Q6e (Qid N x87 _ hf91) rfl rfl (nlc (NLt.agg _ (nlc nll (nlc nll (nlc nll (nlc nll nl0))))) nl0) nll rfl, trivial⟩ ?_
        rcases bft ((x92 != 0)) with hc93 | hc93
        ·replace h := Qa6 hc93 h
         refine wft hc93 (by kernel_rfl) ?_
         refine wx tbk [] trivial ?_
         refine Qag ?_
         refine Qaj ?_
         refine Qax ?_
         refine Qaj ?_
         refine Qaj ?_
         refine Qax ?_
         refine Qaj ?_
         obtain rfl := osi h
         exact fend ⟨[B false], ⟨rot (by kernel_rfl), trivial⟩, rfl⟩ nll
        ·replace h := Qa7 hc93 h
         refine wfn hc93 (by kernel_rfl) ?_
         refine Qas ?_
         refine thn ?_
         refine wy1 tbk [] trivial ?_
         refine bln ?_
         refine thn ?_
         refine wx1 tbk [] trivial ?_
         refine thn ?_
         exact arm (mto (n := 236) [(7, .ref 0 3 0 0), (10, .ref 1 4 0 0), (11, .ref 2 4 0 0), (12, .ref 3 4 0 0), (14, (Qkq x21)), (15, I x21.2), (16, (I (w64 (y66 + x87.Mass)))), (17, (I (w64 (y67 + x87.Heat)))), (18, (I (w64 (y68 + x87.Silica)))), (19, (I (w64 (y69 + x87.Gas)))), (20, (I (w64 (y70 + 1))))] [0, 1, 2, 3] [(Qhc x9), (Qgu x17), (Qgt x17), (Qgs x17)] hφ0 (pc (.rn (rqr rfl)) (pc (.rn (rqr rfl)) (pc (.rn (rqr rfl)) (pc (.rn (rqr rfl)) (pc (.rn (.plain _ (nld Qbq _))) (pc rwl (pc rwl (pc rwl (pc rwl (pc rwl (pc rwl pn))))))))))) (qc (spb (lc (.rn (.plain _ (nld Qak _))) (lc (.rn (.plain _ (nld Qaw _))) (lc (.rn (.plain _ (nld Qaf _))) ln)))) (qc (spb (lc rwl (lc rwl (lc rwl (lc rwl ln))))) (qc (spb (lc rwl (lc rwl (lc rwl (lc rwl ln))))) (qc (spb (lc rwl (lc rwl (lc rwl (lc rwl ln))))) qn))))) (ih (w64 (y66 + x87.Mass), w64 (y67 + x87.Heat), w64 (y68 + x87.Silica), w64 (y69 + x87.Gas), w64 (y70 + 1)) h)
       ·skip
        rcases bft ((decide (x78.Element < 0))) with hb94 | hb94
        ·replace h := Qa6 hb94 h
         refine wxd tbk [(3, rp [(.tmp 82, (B ((decide (x78.Element < 0)))))] (B true))] ⟨asb hb94 (amv rfl), trivial⟩ ?_
         refine Qch (by kernel_rfl) ?_
         refine wx tbk [] trivial ?_
         refine Qag ?_
         refine Qaj ?_
         refine Qax ?_
         refine Qaj ?_
         refine Qaj ?_
         refine Qax ?_
         refine Qaj ?_
         obtain rfl := osi h
         exact fend ⟨[B false], ⟨rot (by kernel_rfl), trivial⟩, rfl⟩ nll
        ·replace h := Qa7 hb94 h
         rcases bft ((decide (x78.Element ≥ (x9.1.Out.length : Int)))) with hb95 | hb95
         ·replace h := Qa6 hb95 h
          refine wxd tbk [(3, rp [(.tmp 82, (B ((decide (x78.Element < 0)))))] (B false)), (8, rp [(.tmp 83, B false), (.tmp 87, (Qmj x9))] (I ((x9.1.Out.length : Int)))), (11, rp [(.tmp 90, (B ((decide (x78.Element ≥ (x9.1.Out.length : Int))))))] (B true))] ⟨asb hb94 (amv rfl), ag_ (alm (c := Qae) (l := x9.1.Out) (aln rfl Try.underlying31 rfl)), asb hb95 (amv rfl), trivial⟩ ?_
          refine Qch (by kernel_rfl) ?_
          refine wx tbk [] trivial ?_
          refine Qag ?_
          refine Qaj ?_
          refine Qax ?_
          refine Qaj ?_
          refine Qaj ?_
          refine Qax ?_
          refine Qaj ?_
          obtain rfl := osi h
          exact fend ⟨[B false], ⟨rot (by kernel_rfl), trivial⟩, rfl⟩ nll
         ·replace h := Qa7 hb95 h
          rcases bft ((decide (x78.Outlet < 0))) with hb96 | hb96
          ·replace h := Qa6 hb96 h
           refine wxd tbk [(3, rp [(.tmp 82, (B ((decide (x78.Element < 0)))))] (B false)), (8, rp [(.tmp 83, B false), (.tmp 87, (Qmj x9))] (I ((x9.1.Out.length : Int)))), (11, rp [(.tmp 90, (B ((decide (x78.Element ≥ (x9.1.Out.length : Int))))))] (B false)), (16, rp [(.tmp 95, (B ((decide (x78.Outlet < 0)))))] (B true))] ⟨asb hb94 (amv rfl), ag_ (alm (c := Qae) (l := x9.1.Out) (aln rfl Try.underlying31 rfl)), asb hb95 (amv rfl), asb hb96 (amv rfl), trivial⟩ ?_
           refine Qch (by kernel_rfl) ?_
           refine wx tbk [] trivial ?_
           refine Qag ?_
           refine Qaj ?_
           refine Qax ?_
           refine Qaj ?_
           refine Qaj ?_
           refine Qax ?_
           refine Qaj ?_
           obtain rfl := osi h
           exact fend ⟨[B false], ⟨rot (by kernel_rfl), trivial⟩, rfl⟩ nll
          ·replace h := Qa7 hb96 h
           obtain ⟨x97, hg98, h⟩ := bno h
           obtain ⟨hi99, hj100⟩ := gsm hg98
           refine wxd tbk [(3, rp [(.tmp 82, (B ((decide (x78.Element < 0)))))] (B false)), (8, rp [(.tmp 83, B false), (.tmp 87, (Qmj x9))] (I ((x9.1.Out.length : Int)))), (11, rp [(.tmp 90, (B ((decide (x78.Element ≥ (x9.1.Out.length : Int))))))] (B false)), (16, rp [(.tmp 95, (B ((decide (x78.Outlet < 0)))))] (B false)), (23, rp [(.tmp 96, B false), (.tmp 100, (Qmj x9)), (.tmp 102, I x78.Element)] (.dptr (Qae (x97)) 0)), (25, rp [(.tmp 96, B false), (.tmp 104, (.dat 4 ((x97 : List GStream).map Qab)))] (I ((x97.length : Int))))] ⟨asb hb94 (amv rfl), ag_ (alm (c := Qae) (l := x9.1.Out) (aln rfl Try.underlying31 rfl)), asb hb95 (amv rfl), asb hb96 (amv rfl), ag_ (aid rfl Try.underlying31 ti45 rfl rfl hi99 (mgt Qae hj100) rfl), ag_ (alm (c := Qab) (l := x97) (aln rfl Try.underlying45 rfl)), trivial⟩ ?_
           rcases bft ((decide (x78.Outlet ≥ (x97.length : Int)))) with hc101 | hc101
           ·replace h := Qa6 hc101 h
            refine wft hc101 (by kernel_rfl) ?_
            refine wx tbk [] trivial ?_
            refine Qag ?_
            refine Qaj ?_
            refine Qax ?_
            refine Qaj ?_
            refine Qaj ?_
            refine Qax ?_
            refine Qaj ?_
            obtain rfl := osi h
            exact fend ⟨[B false], ⟨rot (by kernel_rfl), trivial⟩, rfl⟩ nll
           ·replace h := Qa7 hc101 h
            refine wfn hc101 (by kernel_rfl) ?_
            refine Qas ?_
            refine thn ?_
            exact ⟨(), h, (mto (n := 236) [(7, .ref 0 3 0 0), (10, .ref 1 4 0 0), (11, .ref 2 4 0 0), (12, .ref 3 4 0 0), (14, (Qkq x21)), (15, I x21.2), (16, I y66), (17, I y67), (18, I y68), (19, I y69), (20, I y70), (21, .ref 4 2 0 0)] [0, 1, 2, 3, 4] [(Qhc x9), (Qgu x17), (Qgt x17), (Qgs x17), (.own 2 [[I x78.Element, I x78.Outlet]])] hφ0 (pc (.rn (rqr rfl)) (pc (.rn (rqr rfl)) (pc (.rn (rqr rfl)) (pc (.rn (rqr rfl)) (pc (.rn (.plain _ (nld Qbq _))) (pc rwl (pc rwl (pc rwl (pc rwl (pc rwl (pc rwl (pc (.rn (rqr rfl)) pn)))))))))))) (qc (spb (lc (.rn (.plain _ (nld Qak _))) (lc (.rn (.plain _ (nld Qaw _))) (lc (.rn (.plain _ (nld Qaf _))) ln)))) (qc (spb (lc rwl (lc rwl (lc rwl (lc rwl ln))))) (qc (spb (lc rwl (lc rwl (lc rwl (lc rwl ln))))) (qc (spb (lc rwl (lc rwl (lc rwl (lc rwl ln))))) (qc (spb (lc rwl (lc rwl ln))) qn))))))⟩
      ·replace h := Qa7 hc77 h
       refine wfn hc77 (by kernel_rfl) ?_
       refine Qb4 ?_
       refine Qa5 ?_
       refine Qa5 ?_
       refine Qb3 rfl ?_
       refine thn ?_
       exact ⟨(y66, y67, y68, y69), h, (mto (n := 236) [(7, .ref 0 3 0 0), (10, .ref 1 4 0 0), (11, .ref 2 4 0 0), (12, .ref 3 4 0 0), (15, I x21.2), (16, I y66), (17, I y67), (18, I y68), (19, I y69)] [0, 1, 2, 3] [(Qhc x9), (Qgu x17), (Qgt x17), (Qgs x17)] hφ0 (pc (.rn (rqr rfl)) (pc (.rn (rqr rfl)) (pc (.rn (rqr rfl)) (pc (.rn (rqr rfl)) (pc rwl (pc rwl (pc rwl (pc rwl (pc rwl pn))))))))) (qc (spb (lc (.rn (.plain _ (nld Qak _))) (lc (.rn (.plain _ (nld Qaw _))) (lc (.rn (.plain _ (nld Qaf _))) ln)))) (qc (spb (lc rwl (lc rwl (lc rwl (lc rwl ln))))) (qc (spb (lc rwl (lc rwl (lc rwl (lc rwl ln))))) (qc (spb (lc rwl (lc rwl (lc rwl (lc rwl ln))))) qn)))))⟩
  ·skip
   obtain ⟨x103, hf102, h⟩ := bno h
   rcases bft ((!x103)) with hb104 | hb104
   ·replace h := Qa6 hb104 h
    refine wx tbk [(2, rp [fu 6, (.tmp 25, (Ql9 p0)), (.tmp 26, (Ql8 p2))] (B x103)), (4, rp [(.tmp 28, (B ((!x103))))] (B true))] ⟨apc (first := []) (cap := []) (vs := [(Ql9 p0), (Ql8 p2)]) rfl Zao (Qnk N p0 p2 _ hf102) rfl rfl (nlc (NLt.agg _ (nlc (nld Qai _) (nlc (nld Qaa _) nl0))) (nlc (nld Qac _) nl0)) nll rfl, asb hb104 (amv rfl), trivial⟩ ?_
    refine Qch (by kernel_rfl) ?_
    obtain ⟨x106, hf105, h⟩ := bno h
    refine wx tbk [(0, rp [fu 7] (B x106))] ⟨apc (first := []) (cap := []) (vs := []) rfl Q0c (Qht 2000  _ hf105) rfl rfl nl0 nll rfl, trivial⟩ ?_
    refine Qag ?_
    refine Qaj ?_
    obtain rfl := osi h
    exact fend ⟨[B x106], ⟨rot (by kernel_rfl), trivial⟩, rfl⟩ nll
   ·replace h := Qa7 hb104 h
    refine wx tbk [(2, rp [fu 6, (.tmp 25, (Ql9 p0)), (.tmp 26, (Ql8 p2))] (B x103)), (4, rp [(.tmp 28, (B ((!x103))))] (B false)), (6, rp [(.tmp 29, B false), (.tmp 30, (Qps p1))] (I ((p1.length : Int))))] ⟨apc (first := []) (cap := []) (vs := [(Ql9 p0), (Ql8 p2)]) rfl Zao (Qnk N p0 p2 _ hf102) rfl rfl (nlc (NLt.agg _ (nlc (nld Qai _) (nlc (nld Qaa _) nl0))) (nlc (nld Qac _) nl0)) nll rfl, asb hb104 (amv rfl), ag_ (alm (c := Qam) (l := p1) (aln rfl Try.underlying27 rfl)), trivial⟩ ?_
    rcases bft ((decide ((p1.length : Int) > 25))) with hc107 | hc107
    ·replace h := Qa6 hc107 h
     refine wft hc107 (by kernel_rfl) ?_
     obtain ⟨x109, hf108, h⟩ := bno h
     refine wx tbk [(0, rp [fu 7] (B x109))] ⟨apc (first := []) (cap := []) (vs := []) rfl Q0c (Qht 2000  _ hf108) rfl rfl nl0 nll rfl, trivial⟩ ?_
     refine Qag ?_
     refine Qaj ?_
     obtain rfl := osi h
     exact fend ⟨[B x109], ⟨rot (by kernel_rfl), trivial⟩, rfl⟩ nll
    ·replace h := Qa7 hc107 h
     refine wfn hc107 (by kernel_rfl) ?_
     refine Qas ?_
     refine thn ?_
     exact ⟨(), h, (mto (n := 236) [(1, (Qps p1)), (2, (Ql8 p2)), (3, .ref 0 2 0 0)] [0] [(.own 2 [[(Q4a p0), (Q39 p0)]])] hφ0 (pc (.rn (.plain _ (nld Qaf _))) (pc (.rn (.plain _ (nld Qac _))) (pc (.rn (rqr rfl)) pn))) (qc (spb (lc (.rn (.plain _ (nld Qai _))) (lc (.rn (.plain _ (nld Qaa _))) ln))) qn))⟩
end Go.Proofs.Ytmbhnllcfmiajaa
