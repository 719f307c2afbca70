/-
  Functions of the program: what they compute, as plain functions, and that they do. No conditions.
-/
import Derived.Test.YtlhakkkjgdbdpaaX12
namespace Go.Proofs.Ytlhakkkjgdbdpaa
open Go.RowKit
def Qdv (N : Nat) (p0 : (List Int)) (x35 : GUnit) (y48 : Int) (k51 : (List Int) → Option Int) : Nat → Int → (List Int) → Option Int
  | 0, _, _ => none
  | n58 + 1, y54, y55 =>
    bif (decide (y54 ≤ x35.Inlet)) then
     chk (decide (0 ≤ y54) && decide (y54.toNat < (p0.length : Int).toNat)) <|
     (y55[y54.toNat]?).bind fun x61 =>
     chk (decide (0 ≤ y54) && decide (y54.toNat < (p0.length : Int).toNat)) <|
     (y55[y54.toNat]?).bind fun _ =>
     Qdv N p0 x35 y48 k51 n58 (w64 (y54 + 1)) (y55.set y54.toNat (w64 (x61 - y48)))
    else
     k51 (y55)
def Qeh (N : Nat) (p0 : (List Int)) (y30 : (List Int)) (x35 : GUnit) (k49 : Int → Option Int) : Nat → Int → Int → Option Int
  | 0, _, _ => none
  | n70 + 1, y66, y67 =>
    bif (decide (y67 ≤ x35.Inlet)) then
     chk (decide (0 ≤ y67) && decide (y67.toNat < (p0.length : Int).toNat)) <|
     (y30[y67.toNat]?).bind fun x73 =>
     (some (if x73 < y66 then x73 else y66)).bind fun x75 =>
     Qeh N p0 y30 x35 k49 n70 x75 (w64 (y67 + 1))
    else
     k49 (y66)
def Qdc (N : Nat) (p0 : (List Int)) (p1 : (List GUnit)) (y7 : Int) (y18 : Int) (k27 : Int × (List Int) → Option Int) : Nat → Int → Int → (List Int) → Option Int
  | 0, _, _, _ => none
  | n34 + 1, y28, y29, y30 =>
    (getI p1 y18).bind fun x35 =>
    bif (decide (y29 < (x35.Parts.length : Int))) then
     Qbr (fun ⟨y40, y41⟩ =>
       Qdc N p0 p1 y7 y18 k27 n34 y40 (w64 (y29 + 1)) y41) fun k42 : Int × (List Int) → Option Int =>
     (getI x35.Parts y29).bind fun x43 =>
     bif (x43.Gain != y7) then
      k42 (y28, y30)
     else
      Qbr (fun y48 =>
        Qbr (fun y50 =>
          (some (w64 (y28 + (w64 (y48 * y7))))).bind fun x52 =>
          k42 (x52, y50)) fun k51 : (List Int) → Option Int =>
        Qdv N p0 x35 y48 k51 N 0 y30) fun k49 : Int → Option Int =>
      Qeh N p0 y30 x35 k49 N x43.Width 0
    else
     k27 (y28, y30)
def Qdw (N : Nat) (p0 : (List Int)) (p1 : (List GUnit)) (y7 : Int) (k16 : Int × (List Int) → Option Int) : Nat → Int → Int → (List Int) → Option Int
  | 0, _, _, _ => none
  | n23 + 1, y17, y18, y19 =>
    bif (decide (y18 < (p1.length : Int))) then
     Qbr (fun ⟨y25, y26⟩ =>
       Qdw N p0 p1 y7 k16 n23 y25 (w64 (y18 + 1)) y26) fun k27 : Int × (List Int) → Option Int =>
     Qdc N p0 p1 y7 y18 k27 N y17 0 y19
    else
     k16 (y17, y19)
def Qdd (N : Nat) (p0 : (List Int)) (p1 : (List GUnit)) (k5 : Int → Option Int) : Nat → Int → Int → (List Int) → Option Int
  | 0, _, _, _ => none
  | n12 + 1, y6, y7, y8 =>
    bif (decide (y7 > 0)) then
     Qbr (fun ⟨y14, y15⟩ =>
       Qdd N p0 p1 k5 n12 y14 (w64 (y7 - 1)) y15) fun k16 : Int × (List Int) → Option Int =>
     Qdw N p0 p1 y7 k16 N y6 0 y8
    else
     k5 (y6)
def Qeg (N : Nat) (p0 : (List Int)) (k3 : (List Int) → Option Int) : Nat → Int → (List Int) → Option Int
  | 0, _, _ => none
  | n81 + 1, y77, y78 =>
    bif (decide (y77 < (p0.length : Int))) then
     (Qgp N p0 y77).bind fun x84 =>
     chk (decide (0 ≤ y77) && decide (y77.toNat < (p0.length : Int).toNat)) <|
     (y78[y77.toNat]?).bind fun _ =>
     Qeg N p0 k3 n81 (w64 (y77 + 1)) (y78.set y77.toNat x84)
    else
     k3 (y78)
def Qjs (N : Nat) (p0 : (List Int)) (p1 : (List GUnit)) : Option Int :=
  chk (decide (0 ≤ (p0.length : Int)) && decide (8 * (p0.length : Int) ≤ 281474976710656) && decide ((p0.length : Int) ≤ 9223372036854775807)) <|
  Qbr (fun y2 =>
    Qbr (fun y4 =>
      some y4) fun k5 : Int → Option Int =>
    Qdd N p0 p1 k5 N 0 1000 y2) fun k3 : (List Int) → Option Int =>
  Qeg N p0 k3 N 0 (List.replicate (p0.length : Int).toNat 0)
def Qot (p0 : (List Int)) : AV := .dat 1 ((p0 : List Int).map Qab)
def z123_1 (p0 : (List Int)) : Slot := .own 1 ((List.replicate (p0.length : Int).toNat 0 : List Int).map Qab)
def Qdn (p1 : (List GUnit)) : AV := .dat 2 ((p1 : List GUnit).map Qan)
def z123_9 (y2 : (List Int)) : Slot := .own 1 ((y2 : List Int).map Qab)
def Qo8 (y19 : (List Int)) : Slot := .own 1 ((y19 : List Int).map Qab)
def Qh6 (y30 : (List Int)) : Slot := .own 1 ((y30 : List Int).map Qab)
def Qr0 (x35 : GUnit) : AV := .dat 2 ((x35.Parts : List GPart).map Qau)
def Qmj (y55 : (List Int)) : Slot := .own 1 ((y55 : List Int).map Qab)
def Qo7 (y78 : (List Int)) : Slot := .own 1 ((y78 : List Int).map Qab)
set_option maxRecDepth 100000 in
set_option maxHeartbeats 4000000 in
theorem Qkc (N : Nat) (p0 : (List Int)) (p1 : (List GUnit)) (r : Int) (h : Qjs N p0 p1 = some r) : Spec Try.prog 50 [(.dat 1 (p0.map Qab)), (.dat 2 (p1.map Qan))] [] (I r) [] := by
  refine Qae Try.func50 rfl 0 (nle rfl) (fun X φ0 w0 hφ0 => ?_)
  unfold Qjs at h
  refine wx tbk [] trivial ?_
  obtain ⟨hm1, h⟩ := cko h
  refine wx tbk [(1, rp [(.tmp 14, (Qot p0))] (I ((p0.length : Int)))), (2, ⟨[(.tmp 15, (I ((p0.length : Int)))), (.tmp 15, (I ((p0.length : Int))))], [(0, .unused)], (.own 0 1 (0) ((p0.length : Int).toNat)), [(0, (z123_1 p0))], false⟩)] ⟨alm (c := Qab) (l := p0) (aln rfl Try.underlying37 rfl), Qhm rfl Try.underlying37 te3 tz3 rfl (Qtf hm1) rfl (Qte hm1) (Qoz hm1) (Qog Qab rfl), trivial⟩ ?_
  obtain ⟨k3, hk_k3, h⟩ := jko h
  refine wjn (τ := (List Int)) (fun t => k3 t = some r) (fun y2 => ⟨mk 106 [(1, (Qdn p1)), (5, (.own 0 1 (0) ((p0.length : Int).toNat)))], [(z123_9 y2)]⟩) (fun y2 h => ?_) ?_
  ·subst hk_k3
   refine wx tbk [] trivial ?_
   obtain ⟨k5, hk_k5, h⟩ := jko h
   refine wjn (τ := Int) (fun t => k5 t = some r) (fun y4 => ⟨mk 106 [(7, I y4)], []⟩) (fun y4 h => ?_) ?_
   ·subst hk_k5
    refine wx tbk [] trivial ?_
    refine Qag ?_
    obtain rfl := osi h
    exact fend ⟨[I y4], ⟨rot (by kernel_rfl), trivial⟩, rfl⟩ nll
   ·skip
    refine wx tbk [] trivial ?_
    refine Qad ?_
    refine wmr (mto (n := 106) (l' := [(1, (Qdn p1)), (5, (.own 0 1 (0) ((p0.length : Int).toNat))), (7, I 0), (8, I 1000)]) (own' := [(z123_9 y2)]) [(1, (Qdn p1)), (5, (.own 0 1 (0) ((p0.length : Int).toNat))), (7, I 0), (8, I 1000)] [0] [(z123_9 y2)] hφ0 (pc (.rn (.plain _ (nld Qac _))) (pc (.rn (Qaf rfl)) (pc rwl (pc rwl pn)))) (qc (spr Qaa) qn)) ?_
    refine Qbj (τ := Int × Int × (List Int)) (fun n t => Qdd N p0 p1 k5 n t.1 t.2.1 t.2.2 = some r) (fun ⟨y6, y7, y8⟩ => ⟨mk 106 [(1, (Qdn p1)), (5, (.own 0 1 (0) ((p0.length : Int).toNat))), (7, I y6), (8, I y7)], [(.own 1 ((y8 : List Int).map Qab))]⟩) (fun t h => by rw [Qdd] at h; cases h) (fun n12 ih t h => ?_) N (0, 1000, y2) h
    obtain ⟨y6, y7, y8⟩ := t
    rw [Qdd] at h
    skip
    refine wsq ?_
    refine wx tbk [] trivial ?_
    rcases bft ((decide (y7 > 0))) with hc13 | hc13
    ·replace h := Qaw hc13 h
     refine wft hc13 (by kernel_rfl) ?_
     refine Qak ?_
     refine thn ?_
     obtain ⟨k16, hk_k16, h⟩ := jko h
     refine wjn (τ := Int × (List Int)) (fun t => k16 t = some r) (fun ⟨y14, y15⟩ => ⟨mk 106 [(1, (Qdn p1)), (5, (.own 0 1 (0) ((p0.length : Int).toNat))), (7, I y14), (8, I y7)], [(.own 1 ((y15 : List Int).map Qab))]⟩) (fun t h => ?_) ?_
     ·subst hk_k16
      obtain ⟨y14, y15⟩ := t
      refine wx1 tbk [] trivial ?_
      refine thn ?_
      exact arm (mto (n := 106) [(1, (Qdn p1)), (5, (.own 0 1 (0) ((p0.length : Int).toNat))), (7, I y14), (8, (I (w64 (y7 - 1))))] [0] [(.own 1 ((y15 : List Int).map Qab))] hφ0 (pc (.rn (.plain _ (nld Qac _))) (pc (.rn (Qaf rfl)) (pc rwl (pc rwl pn)))) (qc (spr Qaa) qn)) (ih (y14, w64 (y7 - 1), y15) h)
     ·skip
      refine Qad ?_
      refine wx tbk [] trivial ?_
      refine Qad ?_
      refine wmr (mto (n := 106) (l' := [(1, (Qdn p1)), (5, (.own 0 1 (0) ((p0.length : Int).toNat))), (7, I y6), (8, I y7), (9, I 0)]) (own' := [(.own 1 ((y8 : List Int).map Qab))]) [(1, (Qdn p1)), (5, (.own 0 1 (0) ((p0.length : Int).toNat))), (7, I y6), (8, I y7), (9, I 0)] [0] [(.own 1 ((y8 : List Int).map Qab))] hφ0 (pc (.rn (.plain _ (nld Qac _))) (pc (.rn (Qaf rfl)) (pc rwl (pc rwl (pc rwl pn))))) (qc (spr Qaa) qn)) ?_
      refine Qbj (τ := Int × Int × (List Int)) (fun n t => Qdw N p0 p1 y7 k16 n t.1 t.2.1 t.2.2 = some r) (fun ⟨y17, y18, y19⟩ => ⟨mk 106 [(1, (Qdn p1)), (5, (.own 0 1 (0) ((p0.length : Int).toNat))), (7, I y17), (8, I y7), (9, I y18)], [(Qo8 y19)]⟩) (fun t h => by rw [Qdw] at h; cases h) (fun n23 ih t h => ?_) N (y6, 0, y8) h
      obtain ⟨y17, y18, y19⟩ := t
      rw [Qdw] at h
      skip
      refine wsq ?_
      refine wx tbk [(2, rp [(.tmp 34, (Qdn p1))] (I ((p1.length : Int))))] ⟨alm (c := Qan) (l := p1) (aln rfl Try.underlying85 rfl), trivial⟩ ?_
      rcases bft ((decide (y18 < (p1.length : Int)))) with hc24 | hc24
      ·replace h := Qaw hc24 h
       refine wft hc24 (by kernel_rfl) ?_
       refine Qak ?_
       refine thn ?_
       obtain ⟨k27, hk_k27, h⟩ := jko h
       refine wjn (τ := Int × (List Int)) (fun t => k27 t = some r) (fun ⟨y25, y26⟩ => ⟨mk 106 [(1, (Qdn p1)), (5, (.own 0 1 (0) ((p0.length : Int).toNat))), (7, I y25), (8, I y7), (9, I y18)], [(.own 1 ((y26 : List Int).map Qab))]⟩) (fun t h => ?_) ?_
       ·subst hk_k27
        obtain ⟨y25, y26⟩ := t
        refine wx1 tbk [] trivial ?_
        refine thn ?_
        exact arm (mto (n := 106) [(1, (Qdn p1)), (5, (.own 0 1 (0) ((p0.length : Int).toNat))), (7, I y25), (8, I y7), (9, (I (w64 (y18 + 1))))] [0] [(.own 1 ((y26 : List Int).map Qab))] hφ0 (pc (.rn (.plain _ (nld Qac _))) (pc (.rn (Qaf rfl)) (pc rwl (pc rwl (pc rwl pn))))) (qc (spr Qaa) qn)) (ih (y25, w64 (y18 + 1), y26) h)
       ·skip
        refine Qad ?_
        refine wx tbk [] trivial ?_
        refine Qad ?_
        refine wmr (mto (n := 106) (l' := [(1, (Qdn p1)), (5, (.own 0 1 (0) ((p0.length : Int).toNat))), (7, I y17), (8, I y7), (9, I y18), (10, I 0)]) (own' := [(Qo8 y19)]) [(1, (Qdn p1)), (5, (.own 0 1 (0) ((p0.length : Int).toNat))), (7, I y17), (8, I y7), (9, I y18), (10, I 0)] [0] [(Qo8 y19)] hφ0 (pc (.rn (.plain _ (nld Qac _))) (pc (.rn (Qaf rfl)) (pc rwl (pc rwl (pc rwl (pc rwl pn)))))) (qc (spr Qaa) qn)) ?_
        refine Qbj (τ := Int × Int × (List Int)) (fun n t => Qdc N p0 p1 y7 y18 k27 n t.1 t.2.1 t.2.2 = some r) (fun ⟨y28, y29, y30⟩ => ⟨mk 106 [(1, (Qdn p1)), (5, (.own 0 1 (0) ((p0.length : Int).toNat))), (7, I y28), (8, I y7), (9, I y18), (10, I y29)], [(Qh6 y30)]⟩) (fun t h => by rw [Qdc] at h; cases h) (fun n34 ih t h => ?_) N (y17, 0, y19) h
        obtain ⟨y28, y29, y30⟩ := t
        rw [Qdc] at h
        skip
        refine wsq ?_
        obtain ⟨x35, hg36, h⟩ := bno h
        obtain ⟨hi37, hj38⟩ := gsm hg36
        refine wx tbk [(3, rp [(.tmp 40, (Qdn p1)), (.tmp 41, I y18)] (.dptr (Qan (x35)) 0)), (6, rp [(.tmp 44, (Qr0 x35))] (I ((x35.Parts.length : Int))))] ⟨aid rfl Try.underlying85 ti24 rfl rfl hi37 (mgt Qan hj38) rfl, alm (c := Qau) (l := x35.Parts) (aln rfl Try.underlying22 rfl), trivial⟩ ?_
        rcases bft ((decide (y29 < (x35.Parts.length : Int)))) with hc39 | hc39
        ·replace h := Qaw hc39 h
         refine wft hc39 (by kernel_rfl) ?_
         refine Qak ?_
         refine thn ?_
         obtain ⟨k42, hk_k42, h⟩ := jko h
         refine wjn (τ := Int × (List Int)) (fun t => k42 t = some r) (fun ⟨y40, y41⟩ => ⟨mk 106 [(1, (Qdn p1)), (5, (.own 0 1 (0) ((p0.length : Int).toNat))), (7, I y40), (8, I y7), (9, I y18), (10, I y29)], [(.own 1 ((y41 : List Int).map Qab))]⟩) (fun t h => ?_) ?_
         ·subst hk_k42
          obtain ⟨y40, y41⟩ := t
          refine wx1 tbk [] trivial ?_
          refine thn ?_
          exact arm (mto (n := 106) [(1, (Qdn p1)), (5, (.own 0 1 (0) ((p0.length : Int).toNat))), (7, I y40), (8, I y7), (9, I y18), (10, (I (w64 (y29 + 1))))] [0] [(.own 1 ((y41 : List Int).map Qab))] hφ0 (pc (.rn (.plain _ (nld Qac _))) (pc (.rn (Qaf rfl)) (pc rwl (pc rwl (pc rwl (pc rwl pn)))))) (qc (spr Qaa) qn)) (ih (y40, w64 (y29 + 1), y41) h)
         ·skip
          refine Qad ?_
          refine wsq ?_
          obtain ⟨x43, hg44, h⟩ := bno h
          obtain ⟨hi45, hj46⟩ := gsm hg44
          refine wx tbk [(2, rp [(.tmp 49, (Qdn p1)), (.tmp 50, I y18)] (.dptr (Qan (x35)) 0)), (6, rp [(.tmp 53, (Qr0 x35)), (.tmp 54, I y29)] (.dptr (Qau (x43)) 0))] ⟨aid rfl Try.underlying85 ti24 rfl rfl hi37 (mgt Qan hj38) rfl, aid rfl Try.underlying22 Qo4 rfl rfl hi45 (mgt Qau hj46) rfl, trivial⟩ ?_
          rcases bft ((x43.Gain != y7)) with hc47 | hc47
          ·replace h := Qaw hc47 h
           refine wft hc47 (by kernel_rfl) ?_
           refine Qa3 ?_
           refine Qam ?_
           refine Qa2 rfl ?_
           refine thn ?_
           exact ⟨(y28, y30), h, (mto (n := 106) [(1, (Qdn p1)), (5, (.own 0 1 (0) ((p0.length : Int).toNat))), (7, I y28), (8, I y7), (9, I y18), (10, I y29)] [0] [(Qh6 y30)] hφ0 (pc (.rn (.plain _ (nld Qac _))) (pc (.rn (Qaf rfl)) (pc rwl (pc rwl (pc rwl (pc rwl pn)))))) (qc (spr Qaa) qn))⟩
          ·replace h := Qax hc47 h
           refine wfn hc47 (by kernel_rfl) ?_
           refine Qak ?_
           refine thn ?_
           refine wx tbk [(2, rp [(.tmp 60, (Qdn p1)), (.tmp 61, I y18)] (.dptr (Qan (x35)) 0)), (6, rp [(.tmp 64, (Qr0 x35)), (.tmp 65, I y29)] (.dptr (Qau (x43)) 0))] ⟨aid rfl Try.underlying85 ti24 rfl rfl hi37 (mgt Qan hj38) rfl, aid rfl Try.underlying22 Qo4 rfl rfl hi45 (mgt Qau hj46) rfl, trivial⟩ ?_
           obtain ⟨k49, hk_k49, h⟩ := jko h
           refine wjn (τ := Int) (fun t => k49 t = some r) (fun y48 => ⟨mk 106 [(1, (Qdn p1)), (5, (.own 0 1 (0) ((p0.length : Int).toNat))), (7, I y28), (8, I y7), (9, I y18), (10, I y29), (11, I y48)], [(Qh6 y30)]⟩) (fun y48 h => ?_) ?_
           ·subst hk_k49
            obtain ⟨k51, hk_k51, h⟩ := jko h
            refine wjn (τ := (List Int)) (fun t => k51 t = some r) (fun y50 => ⟨mk 106 [(1, (Qdn p1)), (5, (.own 0 1 (0) ((p0.length : Int).toNat))), (7, I y28), (8, I y7), (9, I y18), (10, I y29), (11, I y48)], [(.own 1 ((y50 : List Int).map Qab))]⟩) (fun y50 h => ?_) ?_
            ·subst hk_k51
             obtain ⟨x52, hl53, h⟩ := bno h
             refine wx1 tbk [(5, rp [(.tmp 104, (I (w64 (y28 + (w64 (y48 * y7))))))] (I x52))] ⟨Qed hl53 (aas rfl), trivial⟩ ?_
             refine bln ?_
             refine thn ?_
             exact ⟨(x52, y50), h, (mto (n := 106) [(1, (Qdn p1)), (5, (.own 0 1 (0) ((p0.length : Int).toNat))), (7, I x52), (8, I y7), (9, I y18), (10, I y29)] [0] [(.own 1 ((y50 : List Int).map Qab))] hφ0 (pc (.rn (.plain _ (nld Qac _))) (pc (.rn (Qaf rfl)) (pc rwl (pc rwl (pc rwl (pc rwl pn)))))) (qc (spr Qaa) qn))⟩
            ·skip
             refine wx tbk [] trivial ?_
             refine Qad ?_
             refine wmr (mto (n := 106) (l' := [(1, (Qdn p1)), (5, (.own 0 1 (0) ((p0.length : Int).toNat))), (7, I y28), (8, I y7), (9, I y18), (10, I y29), (11, I y48), (13, I 0)]) (own' := [(Qh6 y30)]) [(1, (Qdn p1)), (5, (.own 0 1 (0) ((p0.length : Int).toNat))), (7, I y28), (8, I y7), (9, I y18), (10, I y29), (11, I y48), (13, I 0)] [0] [(Qh6 y30)] hφ0 (pc (.rn (.plain _ (nld Qac _))) (pc (.rn (Qaf rfl)) (pc rwl (pc rwl (pc rwl (pc rwl (pc rwl (pc rwl pn)))))))) (qc (spr Qaa) qn)) ?_
             refine Qbj (τ := Int × (List Int)) (fun n t => Qdv N p0 x35 y48 k51 n t.1 t.2 = some r) (fun ⟨y54, y55⟩ => ⟨mk 106 [(1, (Qdn p1)), (5, (.own 0 1 (0) ((p0.length : Int).toNat))), (7, I y28), (8, I y7), (9, I y18), (10, I y29), (11, I y48), (13, I y54)], [(Qmj y55)]⟩) (fun t h => by rw [Qdv] at h; cases h) (fun n58 ih t h => ?_) N (0, y30) h
             obtain ⟨y54, y55⟩ := t
             rw [Qdv] at h
             skip
             refine wsq ?_
             refine wx tbk [(3, rp [(.tmp 85, (Qdn p1)), (.tmp 86, I y18)] (.dptr (Qan (x35)) 0))] ⟨aid rfl Try.underlying85 ti24 rfl rfl hi37 (mgt Qan hj38) rfl, trivial⟩ ?_
             rcases bft ((decide (y54 ≤ x35.Inlet))) with hc59 | hc59
             ·replace h := Qaw hc59 h
              refine wft hc59 (by kernel_rfl) ?_
              refine Qak ?_
              refine thn ?_
              refine wsq ?_
              refine Qad ?_
              obtain ⟨hi60, h⟩ := cko h
              obtain ⟨hi60a, hi60b⟩ := Qbc hi60
              obtain ⟨x61, hg62, h⟩ := bno h
              obtain ⟨hi63, h⟩ := cko h
              obtain ⟨hi63a, hi63b⟩ := Qbc hi63
              obtain ⟨x64, hg65, h⟩ := bno h
              refine wx1 tbk [(2, rb [(.tmp 93, (.own 0 1 (0) ((p0.length : Int).toNat))), (.tmp 94, I y54)] [(0, (Qmj y55))] (.ref 0 1 (y54.toNat) 0)), (3, rb [(.tmp 95, (.ref 0 1 (y54.toNat) 0))] [(0, (Qmj y55))] (I x61)), (6, rb [(.tmp 93, (.own 0 1 (0) ((p0.length : Int).toNat))), (.tmp 94, I y54)] [(0, (Qmj y55))] (.ref 0 1 (y54.toNat) 0)), (7, ⟨[(.tmp 99, (.ref 0 1 (y54.toNat) 0)), (.tmp 98, (I (w64 (x61 - y48))))], [(0, (Qmj y55))], .any, [(0, (.own 1 ((y55.set y54.toNat (w64 (x61 - y48)) : List Int).map Qab)))], false⟩)] ⟨aio rfl Try.underlying37 ti3 (odt hi60a) (odt hi60b) (Nat.zero_add _), ald rfl ti3 (by decide) (mgt Qab hg62) (nle rfl) rfl, aio rfl Try.underlying37 ti3 (odt hi63a) (odt hi63b) (Nat.zero_add _), ast rfl ti3 (by rfl) (mgt Qab hg65) (nle rfl) (Qgf Qab rfl), trivial⟩ ?_
              refine bln ?_
              refine thn ?_
              refine wx1 tbk [] trivial ?_
              refine thn ?_
              exact arm (mto (n := 106) [(1, (Qdn p1)), (5, (.own 0 1 (0) ((p0.length : Int).toNat))), (7, I y28), (8, I y7), (9, I y18), (10, I y29), (11, I y48), (13, (I (w64 (y54 + 1))))] [0] [(.own 1 ((y55.set y54.toNat (w64 (x61 - y48)) : List Int).map Qab))] hφ0 (pc (.rn (.plain _ (nld Qac _))) (pc (.rn (Qaf rfl)) (pc rwl (pc rwl (pc rwl (pc rwl (pc rwl (pc rwl pn)))))))) (qc (spr Qaa) qn)) (ih (w64 (y54 + 1), y55.set y54.toNat (w64 (x61 - y48))) h)
             ·replace h := Qax hc59 h
              refine wfn hc59 (by kernel_rfl) ?_
              refine Qa3 ?_
              refine Qam ?_
              refine Qam ?_
              refine Qa2 rfl ?_
              refine thn ?_
              exact ⟨(y55), h, (mto (n := 106) [(1, (Qdn p1)), (5, (.own 0 1 (0) ((p0.length : Int).toNat))), (7, I y28), (8, I y7), (9, I y18), (10, I y29), (11, I y48)] [0] [(Qmj y55)] hφ0 (pc (.rn (.plain _ (nld Qac _))) (pc (.rn (Qaf rfl)) (pc rwl (pc rwl (pc rwl (pc rwl (pc rwl pn))))))) (qc (spr Qaa) qn))⟩
           ·skip
            refine wx tbk [] trivial ?_
            refine Qad ?_
            refine wmr (mto (n := 106) (l' := [(1, (Qdn p1)), (5, (.own 0 1 (0) ((p0.length : Int).toNat))), (7, I y28), (8, I y7), (9, I y18), (10, I y29), (11, I x43.Width), (12, I 0)]) (own' := [(Qh6 y30)]) [(1, (Qdn p1)), (5, (.own 0 1 (0) ((p0.length : Int).toNat))), (7, I y28), (8, I y7), (9, I y18), (10, I y29), (11, I x43.Width), (12, I 0)] [0] [(Qh6 y30)] hφ0 (pc (.rn (.plain _ (nld Qac _))) (pc (.rn (Qaf rfl)) (pc rwl (pc rwl (pc rwl (pc rwl (pc rwl (pc rwl pn)))))))) (qc (spr Qaa) qn)) ?_
            refine Qbj (τ := Int × Int) (fun n t => Qeh N p0 y30 x35 k49 n t.1 t.2 = some r) (fun ⟨y66, y67⟩ => ⟨mk 106 [(1, (Qdn p1)), (5, (.own 0 1 (0) ((p0.length : Int).toNat))), (7, I y28), (8, I y7), (9, I y18), (10, I y29), (11, I y66), (12, I y67)], [(Qh6 y30)]⟩) (fun t h => by rw [Qeh] at h; cases h) (fun n70 ih t h => ?_) N (x43.Width, 0) h
            obtain ⟨y66, y67⟩ := t
            rw [Qeh] at h
            skip
            refine wsq ?_
            refine wx tbk [(3, rp [(.tmp 70, (Qdn p1)), (.tmp 71, I y18)] (.dptr (Qan (x35)) 0))] ⟨aid rfl Try.underlying85 ti24 rfl rfl hi37 (mgt Qan hj38) rfl, trivial⟩ ?_
            rcases bft ((decide (y67 ≤ x35.Inlet))) with hc71 | hc71
            ·replace h := Qaw hc71 h
             refine wft hc71 (by kernel_rfl) ?_
             refine Qak ?_
             refine thn ?_
             refine wsq ?_
             refine Qad ?_
             obtain ⟨hi72, h⟩ := cko h
             obtain ⟨hi72a, hi72b⟩ := Qbc hi72
             obtain ⟨x73, hg74, h⟩ := bno h
             obtain ⟨x75, hl76, h⟩ := bno h
             refine wx1 tbk [(3, rb [(.tmp 79, (.own 0 1 (0) ((p0.length : Int).toNat))), (.tmp 80, I y67)] [(0, (Qh6 y30))] (.ref 0 1 (y67.toNat) 0)), (4, rb [(.tmp 81, (.ref 0 1 (y67.toNat) 0))] [(0, (Qh6 y30))] (I x73)), (5, rp [(.tmp 78, I y66), (.tmp 82, I x73)] (I ((if x73 < y66 then x73 else y66)))), (6, rp [(.tmp 83, (I ((if x73 < y66 then x73 else y66))))] (I x75))] ⟨aio rfl Try.underlying37 ti3 (odt hi72a) (odt hi72b) (Nat.zero_add _), ald rfl ti3 (by decide) (mgt Qab hg74) (nle rfl) rfl, Qku rfl, Qed hl76 (aas rfl), trivial⟩ ?_
             refine bln ?_
             refine thn ?_
             refine wx1 tbk [] trivial ?_
             refine thn ?_
             exact arm (mto (n := 106) [(1, (Qdn p1)), (5, (.own 0 1 (0) ((p0.length : Int).toNat))), (7, I y28), (8, I y7), (9, I y18), (10, I y29), (11, I x75), (12, (I (w64 (y67 + 1))))] [0] [(Qh6 y30)] hφ0 (pc (.rn (.plain _ (nld Qac _))) (pc (.rn (Qaf rfl)) (pc rwl (pc rwl (pc rwl (pc rwl (pc rwl (pc rwl pn)))))))) (qc (spr Qaa) qn)) (ih (x75, w64 (y67 + 1)) h)
            ·replace h := Qax hc71 h
             refine wfn hc71 (by kernel_rfl) ?_
             refine Qa3 ?_
             refine Qam ?_
             refine Qam ?_
             refine Qa2 rfl ?_
             refine thn ?_
             exact ⟨(y66), h, (mto (n := 106) [(1, (Qdn p1)), (5, (.own 0 1 (0) ((p0.length : Int).toNat))), (7, I y28), (8, I y7), (9, I y18), (10, I y29), (11, I y66)] [0] [(Qh6 y30)] hφ0 (pc (.rn (.plain _ (nld Qac _))) (pc (.rn (Qaf rfl)) (pc rwl (pc rwl (pc rwl (pc rwl (pc rwl pn))))))) (qc (spr Qaa) qn))⟩
        ·replace h := Qax hc39 h
         refine wfn hc39 (by kernel_rfl) ?_
         refine Qa3 ?_
         refine Qam ?_
         refine Qam ?_
         refine Qa2 rfl ?_
         refine bln ?_
         refine thn ?_
         exact ⟨(y28, y30), h, (mto (n := 106) [(1, (Qdn p1)), (5, (.own 0 1 (0) ((p0.length : Int).toNat))), (7, I y28), (8, I y7), (9, I y18)] [0] [(Qh6 y30)] hφ0 (pc (.rn (.plain _ (nld Qac _))) (pc (.rn (Qaf rfl)) (pc rwl (pc rwl (pc rwl pn))))) (qc (spr Qaa) qn))⟩
      ·replace h := Qax hc24 h
       refine wfn hc24 (by kernel_rfl) ?_
       refine Qa3 ?_
       refine Qam ?_
       refine Qam ?_
       refine Qa2 rfl ?_
       refine bln ?_
       refine thn ?_
       exact ⟨(y17, y19), h, (mto (n := 106) [(1, (Qdn p1)), (5, (.own 0 1 (0) ((p0.length : Int).toNat))), (7, I y17), (8, I y7)] [0] [(Qo8 y19)] hφ0 (pc (.rn (.plain _ (nld Qac _))) (pc (.rn (Qaf rfl)) (pc rwl (pc rwl pn)))) (qc (spr Qaa) qn))⟩
    ·replace h := Qax hc13 h
     refine wfn hc13 (by kernel_rfl) ?_
     refine Qa3 ?_
     refine Qam ?_
     refine Qam ?_
     refine Qa2 rfl ?_
     refine thn ?_
     exact ⟨(y6), h, (mto (n := 106) [(7, I y6)] [] [] hφ0 (pc rwl pn) qn)⟩
  ·skip
   refine wx tbk [] trivial ?_
   refine Qad ?_
   refine wmr (mto (n := 106) (l' := [(0, (Qot p0)), (1, (Qdn p1)), (5, (.own 0 1 (0) ((p0.length : Int).toNat))), (6, I 0)]) (own' := [(.own 1 (((List.replicate (p0.length : Int).toNat 0) : List Int).map Qab))]) [(0, (Qot p0)), (1, (Qdn p1)), (5, (.own 0 1 (0) ((p0.length : Int).toNat))), (6, I 0)] [0] [(z123_1 p0)] hφ0 (pc (.rn (.plain _ (nld Qaa _))) (pc (.rn (.plain _ (nld Qac _))) (pc (.rn (Qaf rfl)) (pc rwl pn)))) (qc (spr Qaa) qn)) ?_
   refine Qbj (τ := Int × (List Int)) (fun n t => Qeg N p0 k3 n t.1 t.2 = some r) (fun ⟨y77, y78⟩ => ⟨mk 106 [(0, (Qot p0)), (1, (Qdn p1)), (5, (.own 0 1 (0) ((p0.length : Int).toNat))), (6, I y77)], [(Qo7 y78)]⟩) (fun t h => by rw [Qeg] at h; cases h) (fun n81 ih t h => ?_) N (0, List.replicate (p0.length : Int).toNat 0) h
   obtain ⟨y77, y78⟩ := t
   rw [Qeg] at h
   skip
   refine wsq ?_
   refine wx tbk [(2, rp [(.tmp 18, (Qot p0))] (I ((p0.length : Int))))] ⟨alm (c := Qab) (l := p0) (aln rfl Try.underlying37 rfl), trivial⟩ ?_
   rcases bft ((decide (y77 < (p0.length : Int)))) with hc82 | hc82
   ·replace h := Qaw hc82 h
    refine wft hc82 (by kernel_rfl) ?_
    refine Qak ?_
    refine thn ?_
    refine wsq ?_
    refine Qad ?_
    obtain ⟨x84, hf83, h⟩ := bno h
    obtain ⟨hi85, h⟩ := cko h
    obtain ⟨hi85a, hi85b⟩ := Qbc hi85
    obtain ⟨x86, hg87, h⟩ := bno h
    refine wx1 tbk [(4, rp [fu 86, (.tmp 25, (Qot p0)), (.tmp 26, I y77)] (I x84)), (5, rb [(.tmp 23, (.own 0 1 (0) ((p0.length : Int).toNat))), (.tmp 24, I y77)] [(0, (Qo7 y78))] (.ref 0 1 (y77.toNat) 0)), (6, ⟨[(.tmp 28, (.ref 0 1 (y77.toNat) 0)), (.tmp 27, I x84)], [(0, (Qo7 y78))], .any, [(0, (.own 1 ((y78.set y77.toNat x84 : List Int).map Qab)))], false⟩)] ⟨apc (first := []) (cap := []) (vs := [(Qot p0), I y77]) rfl Qwj (Qkb N p0 y77 _ hf83) rfl rfl (nlc (nld Qaa _) (nlc nll nl0)) nll rfl, aio rfl Try.underlying37 ti3 (odt hi85a) (odt hi85b) (Nat.zero_add _), ast rfl ti3 (by rfl) (mgt Qab hg87) (nle rfl) (Qgf Qab rfl), trivial⟩ ?_
    refine bln ?_
    refine thn ?_
    refine wx1 tbk [] trivial ?_
    refine thn ?_
    exact arm (mto (n := 106) [(0, (Qot p0)), (1, (Qdn p1)), (5, (.own 0 1 (0) ((p0.length : Int).toNat))), (6, (I (w64 (y77 + 1))))] [0] [(.own 1 ((y78.set y77.toNat x84 : List Int).map Qab))] hφ0 (pc (.rn (.plain _ (nld Qaa _))) (pc (.rn (.plain _ (nld Qac _))) (pc (.rn (Qaf rfl)) (pc rwl pn)))) (qc (spr Qaa) qn)) (ih (w64 (y77 + 1), y78.set y77.toNat x84) h)
   ·replace h := Qax hc82 h
    refine wfn hc82 (by kernel_rfl) ?_
    refine Qa3 ?_
    refine Qam ?_
    refine Qam ?_
    refine Qa2 rfl ?_
    refine thn ?_
    exact ⟨(y78), h, (mto (n := 106) [(1, (Qdn p1)), (5, (.own 0 1 (0) ((p0.length : Int).toNat)))] [0] [(Qo7 y78)] hφ0 (pc (.rn (.plain _ (nld Qac _))) (pc (.rn (Qaf rfl)) pn)) (qc (spr Qaa) qn))⟩
def Qgm (N : Nat) (p0 : (List Int)) (p1 : (List GUnit)) (p2 : (List Int)) : Option Bool :=
  Qbr (fun _ =>
    (Qhi N p0).bind fun x3 =>
    (Qhk N p1).bind fun x5 =>
    (Qf4 N x3 x5).bind fun x7 =>
    (Qhi N p0).bind fun x9 =>
    (Qhk N p1).bind fun x11 =>
    (Qhi N p2).bind fun x13 =>
    (Qiv N x9 x11 x13).bind fun x15 =>
    (Qfy N p0 p1).bind fun x17 =>
    bif (!x17) then
     bif (x7.2.2.2 == 1) then
      bif (x15.2 == 1) then
       bif ((w64 ((x7.1.length : Int) + (x7.2.2.1.length : Int))) == 0) then
        bif (x7.2.1 == 0) then
         bif (x15.1 == 0) then
          (Qf5 2000 ).bind fun x25 =>
          some x25
         else
          some false
        else
         some false
       else
        some false
      else
       some false
     else
      some false
    else
     Qbr (fun _ =>
       (Qer N p0 p2).bind fun x28 =>
       bif (!x28) then
        bif (x15.2 == 1) then
         bif (x15.1 == 0) then
          (Qf5 2000 ).bind fun x33 =>
          some x33
         else
          some false
        else
         some false
       else
        bif (x15.2 == 0) then
         (Qhj N p0 p1 p2).bind fun x36 =>
         bif (x15.1 == x36) then
          (Qf5 2000 ).bind fun x39 =>
          some x39
         else
          some false
        else
         some false) fun k26 : Unit → Option Bool =>
     bif (x7.2.2.2 != 0) then
      some false
     else
      (Qjg N p0 p1 x7.1).bind fun x42 =>
      bif (!x42) then
       some false
      else
       (Qjq N p1 x7.1).bind fun x45 =>
       bif (x7.2.1 != x45) then
        some false
       else
        (Qjs N p0 p1).bind fun x48 =>
        bif (x7.2.1 != x48) then
         some false
        else
         (Qer N p0 x7.2.2.1).bind fun x51 =>
         bif (!x51) then
          some false
         else
          (Qhj N p0 p1 x7.2.2.1).bind fun x54 =>
          bif (x54 != x7.2.1) then
           some false
          else
           k26 ()) fun k1 : Unit → Option Bool =>
  (Qkr N p0 p1).bind fun x57 =>
  bif (!x57) then
   (Qf5 2000 ).bind fun x60 =>
   some x60
  else
   bif (decide ((p2.length : Int) > 10)) then
    (Qf5 2000 ).bind fun x63 =>
    some x63
   else
    k1 ()
def Qdr (p0 : (List Int)) : AV := .dat 1 ((p0 : List Int).map Qab)
def Qdi (p1 : (List GUnit)) : AV := .dat 2 ((p1 : List GUnit).map Qan)
def Qkk (p2 : (List Int)) : AV := .dat 1 ((p2 : List Int).map Qab)
def z124_3 (x3 : (List Int)) : AV := .dat 1 ((x3 : List Int).map Qab)
def z124_4 (x5 : (List GUnit)) : AV := .dat 2 ((x5 : List GUnit).map Qan)
def Qgn (x7 : ((List Int) × Int × (List Int) × Int)) : AV := .dat 1 ((x7.1 : List Int).map Qab)
def Qlt (x7 : ((List Int) × Int × (List Int) × Int)) : AV := .dat 1 ((x7.2.2.1 : List Int).map Qab)
def z124_7 (x9 : (List Int)) : AV := .dat 1 ((x9 : List Int).map Qab)
def z124_8 (x11 : (List GUnit)) : AV := .dat 2 ((x11 : List GUnit).map Qan)
def z124_9 (x13 : (List Int)) : AV := .dat 1 ((x13 : List Int).map Qab)
set_option maxRecDepth 100000 in
set_option maxHeartbeats 4000000 in
theorem Qmd (N : Nat) (p0 : (List Int)) (p1 : (List GUnit)) (p2 : (List Int)) (r : Bool) (h : Qgm N p0 p1 p2 = some r) : Spec Try.prog 8 [(.dat 1 (p0.map Qab)), (.dat 2 (p1.map Qan)), (.dat 1 (p2.map Qab))] [] (B r) [] := by
  refine Qae Try.func8 rfl 0 (nle rfl) (fun X φ0 w0 hφ0 => ?_)
  unfold Qgm at h
  refine wx tbk [] trivial ?_
  obtain ⟨k1, hk_k1, h⟩ := jko h
  refine wjn (τ := Unit) (fun t => k1 t = some r) (fun _ => ⟨mk 135 [(0, (Qdr p0)), (1, (Qdi p1)), (2, (Qkk p2))], []⟩) (fun t h => ?_) ?_
  ·subst hk_k1
   obtain ⟨x3, hf2, h⟩ := bno h
   obtain ⟨x5, hf4, h⟩ := bno h
   obtain ⟨x7, hf6, h⟩ := bno h
   refine wx tbk [(1, rp [fu 37, (.tmp 24, (Qdr p0))] (z124_3 x3)), (3, rp [fu 45, (.tmp 26, (Qdi p1))] (z124_4 x5)), (4, rp [fu 44, (.tmp 25, (z124_3 x3)), (.tmp 27, (z124_4 x5))] (.tup [(Qgn x7), I x7.2.1, (Qlt x7), I x7.2.2.2]))] ⟨apc (first := []) (cap := []) (vs := [(Qdr p0)]) rfl Qwp (Qkf N p0 _ hf2) rfl rfl (nlc (nld Qaa _) nl0) (nld Qaa _) rfl, apc (first := []) (cap := []) (vs := [(Qdi p1)]) rfl enter45 (Qmc N p1 _ hf4) rfl rfl (nlc (nld Qac _) nl0) (nld Qac _) rfl, apc (first := []) (cap := []) (vs := [(z124_3 x3), (z124_4 x5)]) rfl enter44 (Ql8 N x3 x5 _ hf6) rfl rfl (nlc (nld Qaa _) (nlc (nld Qac _) nl0)) (NLt.tup _ (nlc (nld Qaa _) (nlc nll (nlc (nld Qaa _) (nlc nll nl0))))) rfl, trivial⟩ ?_
   obtain ⟨x9, hf8, h⟩ := bno h
   obtain ⟨x11, hf10, h⟩ := bno h
   obtain ⟨x13, hf12, h⟩ := bno h
   obtain ⟨x15, hf14, h⟩ := bno h
   refine wx tbk [(1, rp [fu 37, (.tmp 34, (Qdr p0))] (z124_7 x9)), (3, rp [fu 45, (.tmp 36, (Qdi p1))] (z124_8 x11)), (5, rp [fu 37, (.tmp 38, (Qkk p2))] (z124_9 x13)), (6, rp [fu 46, (.tmp 35, (z124_7 x9)), (.tmp 37, (z124_8 x11)), (.tmp 39, (z124_9 x13))] (.tup [I x15.1, I x15.2]))] ⟨apc (first := []) (cap := []) (vs := [(Qdr p0)]) rfl Qwp (Qkf N p0 _ hf8) rfl rfl (nlc (nld Qaa _) nl0) (nld Qaa _) rfl, apc (first := []) (cap := []) (vs := [(Qdi p1)]) rfl enter45 (Qmc N p1 _ hf10) rfl rfl (nlc (nld Qac _) nl0) (nld Qac _) rfl, apc (first := []) (cap := []) (vs := [(Qkk p2)]) rfl Qwp (Qkf N p2 _ hf12) rfl rfl (nlc (nld Qaa _) nl0) (nld Qaa _) rfl, apc (first := []) (cap := []) (vs := [(z124_7 x9), (z124_8 x11), (z124_9 x13)]) rfl enter46 (Qp3 N x9 x11 x13 _ hf14) rfl rfl (nlc (nld Qaa _) (nlc (nld Qac _) (nlc (nld Qaa _) nl0))) (NLt.tup _ (nlc nll (nlc nll nl0))) rfl, trivial⟩ ?_
   refine wsq ?_
   obtain ⟨x17, hf16, h⟩ := bno h
   refine wx tbk [(2, rp [fu 47, (.tmp 43, (Qdr p0)), (.tmp 44, (Qdi p1))] (B x17))] ⟨apc (first := []) (cap := []) (vs := [(Qdr p0), (Qdi p1)]) rfl enter47 (Qm2 N p0 p1 _ hf16) rfl rfl (nlc (nld Qaa _) (nlc (nld Qac _) nl0)) nll rfl, trivial⟩ ?_
   rcases bft ((!x17)) with hc18 | hc18
   ·replace h := Qaw hc18 h
    refine wft hc18 (by kernel_rfl) ?_
    rcases bft ((x7.2.2.2 == 1)) with hb19 | hb19
    ·replace h := Qaw hb19 h
     rcases bft ((x15.2 == 1)) with hb20 | hb20
     ·replace h := Qaw hb20 h
      rcases bft (((w64 ((x7.1.length : Int) + (x7.2.2.1.length : Int))) == 0)) with hb21 | hb21
      ·replace h := Qaw hb21 h
       rcases bft ((x7.2.1 == 0)) with hb22 | hb22
       ·replace h := Qaw hb22 h
        rcases bft ((x15.1 == 0)) with hb23 | hb23
        ·replace h := Qaw hb23 h
         obtain ⟨x25, hf24, h⟩ := bno h
         refine wx tbk [(2, rp [(.tmp 48, (B ((x7.2.2.2 == 1))))] (B true)), (6, rp [(.tmp 52, (B ((x15.2 == 1))))] (B true)), (8, rp [(.tmp 53, B true), (.tmp 54, (Qgn x7))] (I ((x7.1.length : Int)))), (10, rp [(.tmp 53, B true), (.tmp 56, (Qlt x7))] (I ((x7.2.2.1.length : Int)))), (14, rp [(.tmp 60, (B (((w64 ((x7.1.length : Int) + (x7.2.2.1.length : Int))) == 0))))] (B true)), (18, rp [(.tmp 64, (B ((x7.2.1 == 0))))] (B true)), (22, rp [(.tmp 68, (B ((x15.1 == 0))))] (B true)), (23, rp [(.tmp 69, B true), fu 17] (B x25))] ⟨asb hb19 (amv rfl), asb hb20 (amv rfl), ag_ (alm (c := Qab) (l := x7.1) (aln rfl Try.underlying37 rfl)), ag_ (alm (c := Qab) (l := x7.2.2.1) (aln rfl Try.underlying37 rfl)), asb hb21 (amv rfl), asb hb22 (amv rfl), asb hb23 (amv rfl), ag_ (apc (first := []) (cap := []) (vs := []) rfl Qqg (Qgs 2000  _ hf24) rfl rfl nl0 nll rfl), trivial⟩ ?_
         refine Qag ?_
         refine Qay ?_
         obtain rfl := osi h
         exact fend ⟨[B x25], ⟨rot (by kernel_rfl), trivial⟩, rfl⟩ nll
        ·replace h := Qax hb23 h
         refine wx tbk [(2, rp [(.tmp 48, (B ((x7.2.2.2 == 1))))] (B true)), (6, rp [(.tmp 52, (B ((x15.2 == 1))))] (B true)), (8, rp [(.tmp 53, B true), (.tmp 54, (Qgn x7))] (I ((x7.1.length : Int)))), (10, rp [(.tmp 53, B true), (.tmp 56, (Qlt x7))] (I ((x7.2.2.1.length : Int)))), (14, rp [(.tmp 60, (B (((w64 ((x7.1.length : Int) + (x7.2.2.1.length : Int))) == 0))))] (B true)), (18, rp [(.tmp 64, (B ((x7.2.1 == 0))))] (B true)), (22, rp [(.tmp 68, (B ((x15.1 == 0))))] (B false))] ⟨asb hb19 (amv rfl), asb hb20 (amv rfl), ag_ (alm (c := Qab) (l := x7.1) (aln rfl Try.underlying37 rfl)), ag_ (alm (c := Qab) (l := x7.2.2.1) (aln rfl Try.underlying37 rfl)), asb hb21 (amv rfl), asb hb22 (amv rfl), asb hb23 (amv rfl), trivial⟩ ?_
         refine Qag ?_
         refine Qay ?_
         obtain rfl := osi h
         exact fend ⟨[B false], ⟨rot (by kernel_rfl), trivial⟩, rfl⟩ nll
       ·replace h := Qax hb22 h
        refine wx tbk [(2, rp [(.tmp 48, (B ((x7.2.2.2 == 1))))] (B true)), (6, rp [(.tmp 52, (B ((x15.2 == 1))))] (B true)), (8, rp [(.tmp 53, B true), (.tmp 54, (Qgn x7))] (I ((x7.1.length : Int)))), (10, rp [(.tmp 53, B true), (.tmp 56, (Qlt x7))] (I ((x7.2.2.1.length : Int)))), (14, rp [(.tmp 60, (B (((w64 ((x7.1.length : Int) + (x7.2.2.1.length : Int))) == 0))))] (B true)), (18, rp [(.tmp 64, (B ((x7.2.1 == 0))))] (B false))] ⟨asb hb19 (amv rfl), asb hb20 (amv rfl), ag_ (alm (c := Qab) (l := x7.1) (aln rfl Try.underlying37 rfl)), ag_ (alm (c := Qab) (l := x7.2.2.1) (aln rfl Try.underlying37 rfl)), asb hb21 (amv rfl), asb hb22 (amv rfl), trivial⟩ ?_
        refine Qag ?_
        refine Qay ?_
        obtain rfl := osi h
        exact fend ⟨[B false], ⟨rot (by kernel_rfl), trivial⟩, rfl⟩ nll
      ·replace h := Qax hb21 h
       refine wx tbk [(2, rp [(.tmp 48, (B ((x7.2.2.2 == 1))))] (B true)), (6, rp [(.tmp 52, (B ((x15.2 == 1))))] (B true)), (8, rp [(.tmp 53, B true), (.tmp 54, (Qgn x7))] (I ((x7.1.length : Int)))), (10, rp [(.tmp 53, B true), (.tmp 56, (Qlt x7))] (I ((x7.2.2.1.length : Int)))), (14, rp [(.tmp 60, (B (((w64 ((x7.1.length : Int) + (x7.2.2.1.length : Int))) == 0))))] (B false))] ⟨asb hb19 (amv rfl), asb hb20 (amv rfl), ag_ (alm (c := Qab) (l := x7.1) (aln rfl Try.underlying37 rfl)), ag_ (alm (c := Qab) (l := x7.2.2.1) (aln rfl Try.underlying37 rfl)), asb hb21 (amv rfl), trivial⟩ ?_
       refine Qag ?_
       refine Qay ?_
       obtain rfl := osi h
       exact fend ⟨[B false], ⟨rot (by kernel_rfl), trivial⟩, rfl⟩ nll
     ·replace h := Qax hb20 h
      refine wx tbk [(2, rp [(.tmp 48, (B ((x7.2.2.2 == 1))))] (B true)), (6, rp [(.tmp 52, (B ((x15.2 == 1))))] (B false))] ⟨asb hb19 (amv rfl), asb hb20 (amv rfl), trivial⟩ ?_
      refine Qag ?_
      refine Qay ?_
      obtain rfl := osi h
      exact fend ⟨[B false], ⟨rot (by kernel_rfl), trivial⟩, rfl⟩ nll
    ·replace h := Qax hb19 h
     refine wx tbk [(2, rp [(.tmp 48, (B ((x7.2.2.2 == 1))))] (B false))] ⟨asb hb19 (amv rfl), trivial⟩ ?_
     refine Qag ?_
     refine Qay ?_
     obtain rfl := osi h
     exact fend ⟨[B false], ⟨rot (by kernel_rfl), trivial⟩, rfl⟩ nll
   ·replace h := Qax hc18 h
    refine wfn hc18 (by kernel_rfl) ?_
    refine Qak ?_
    refine thn ?_
    obtain ⟨k26, hk_k26, h⟩ := jko h
    refine wjn (τ := Unit) (fun t => k26 t = some r) (fun _ => ⟨mk 135 [(0, (Qdr p0)), (1, (Qdi p1)), (2, (Qkk p2)), (11, I x15.1), (12, I x15.2)], []⟩) (fun t h => ?_) ?_
    ·subst hk_k26
     refine wsq ?_
     obtain ⟨x28, hf27, h⟩ := bno h
     refine wx tbk [(2, rp [fu 51, (.tmp 109, (Qdr p0)), (.tmp 110, (Qkk p2))] (B x28))] ⟨apc (first := []) (cap := []) (vs := [(Qdr p0), (Qkk p2)]) rfl Qwn (Qgo N p0 p2 _ hf27) rfl rfl (nlc (nld Qaa _) (nlc (nld Qaa _) nl0)) nll rfl, trivial⟩ ?_
     rcases bft ((!x28)) with hc29 | hc29
     ·replace h := Qaw hc29 h
      refine wft hc29 (by kernel_rfl) ?_
      rcases bft ((x15.2 == 1)) with hb30 | hb30
      ·replace h := Qaw hb30 h
       rcases bft ((x15.1 == 0)) with hb31 | hb31
       ·replace h := Qaw hb31 h
        obtain ⟨x33, hf32, h⟩ := bno h
        refine wx tbk [(2, rp [(.tmp 114, (B ((x15.2 == 1))))] (B true)), (6, rp [(.tmp 118, (B ((x15.1 == 0))))] (B true)), (7, rp [(.tmp 119, B true), fu 17] (B x33))] ⟨asb hb30 (amv rfl), asb hb31 (amv rfl), ag_ (apc (first := []) (cap := []) (vs := []) rfl Qqg (Qgs 2000  _ hf32) rfl rfl nl0 nll rfl), trivial⟩ ?_
        refine Qag ?_
        refine Qay ?_
        obtain rfl := osi h
        exact fend ⟨[B x33], ⟨rot (by kernel_rfl), trivial⟩, rfl⟩ nll
       ·replace h := Qax hb31 h
        refine wx tbk [(2, rp [(.tmp 114, (B ((x15.2 == 1))))] (B true)), (6, rp [(.tmp 118, (B ((x15.1 == 0))))] (B false))] ⟨asb hb30 (amv rfl), asb hb31 (amv rfl), trivial⟩ ?_
        refine Qag ?_
        refine Qay ?_
        obtain rfl := osi h
        exact fend ⟨[B false], ⟨rot (by kernel_rfl), trivial⟩, rfl⟩ nll
      ·replace h := Qax hb30 h
       refine wx tbk [(2, rp [(.tmp 114, (B ((x15.2 == 1))))] (B false))] ⟨asb hb30 (amv rfl), trivial⟩ ?_
       refine Qag ?_
       refine Qay ?_
       obtain rfl := osi h
       exact fend ⟨[B false], ⟨rot (by kernel_rfl), trivial⟩, rfl⟩ nll
     ·replace h := Qax hc29 h
      refine wfn hc29 (by kernel_rfl) ?_
      refine Qak ?_
      refine thn ?_
      rcases bft ((x15.2 == 0)) with hb34 | hb34
      ·replace h := Qaw hb34 h
       obtain ⟨x36, hf35, h⟩ := bno h
       rcases bft ((x15.1 == x36)) with hb37 | hb37
       ·replace h := Qaw hb37 h
        obtain ⟨x39, hf38, h⟩ := bno h
        refine wx tbk [(2, rp [(.tmp 123, (B ((x15.2 == 0))))] (B true)), (7, rp [(.tmp 124, B true), fu 52, (.tmp 126, (Qdr p0)), (.tmp 127, (Qdi p1)), (.tmp 128, (Qkk p2))] (I x36)), (10, rp [(.tmp 131, (B ((x15.1 == x36))))] (B true)), (11, rp [(.tmp 132, B true), fu 17] (B x39))] ⟨asb hb34 (amv rfl), ag_ (apc (first := []) (cap := []) (vs := [(Qdr p0), (Qdi p1), (Qkk p2)]) rfl Qwm (Qjr N p0 p1 p2 _ hf35) rfl rfl (nlc (nld Qaa _) (nlc (nld Qac _) (nlc (nld Qaa _) nl0))) nll rfl), asb hb37 (amv rfl), ag_ (apc (first := []) (cap := []) (vs := []) rfl Qqg (Qgs 2000  _ hf38) rfl rfl nl0 nll rfl), trivial⟩ ?_
        refine Qag ?_
        obtain rfl := osi h
        exact fend ⟨[B x39], ⟨rot (by kernel_rfl), trivial⟩, rfl⟩ nll
       ·replace h := Qax hb37 h
        refine wx tbk [(2, rp [(.tmp 123, (B ((x15.2 == 0))))] (B true)), (7, rp [(.tmp 124, B true), fu 52, (.tmp 126, (Qdr p0)), (.tmp 127, (Qdi p1)), (.tmp 128, (Qkk p2))] (I x36)), (10, rp [(.tmp 131, (B ((x15.1 == x36))))] (B false))] ⟨asb hb34 (amv rfl), ag_ (apc (first := []) (cap := []) (vs := [(Qdr p0), (Qdi p1), (Qkk p2)]) rfl Qwm (Qjr N p0 p1 p2 _ hf35) rfl rfl (nlc (nld Qaa _) (nlc (nld Qac _) (nlc (nld Qaa _) nl0))) nll rfl), asb hb37 (amv rfl), trivial⟩ ?_
        refine Qag ?_
        obtain rfl := osi h
        exact fend ⟨[B false], ⟨rot (by kernel_rfl), trivial⟩, rfl⟩ nll
      ·replace h := Qax hb34 h
       refine wx tbk [(2, rp [(.tmp 123, (B ((x15.2 == 0))))] (B false))] ⟨asb hb34 (amv rfl), trivial⟩ ?_
       refine Qag ?_
       obtain rfl := osi h
       exact fend ⟨[B false], ⟨rot (by kernel_rfl), trivial⟩, rfl⟩ nll
    ·skip
     rcases bft ((x7.2.2.2 != 0)) with hb40 | hb40
     ·replace h := Qaw hb40 h
      refine wx tbk [(2, rp [(.tmp 73, (B ((x7.2.2.2 != 0))))] (B true))] ⟨asb hb40 (amv rfl), trivial⟩ ?_
      refine Qf7 (by kernel_rfl) ?_
      refine wx tbk [] trivial ?_
      refine Qag ?_
      refine Qay ?_
      obtain rfl := osi h
      exact fend ⟨[B false], ⟨rot (by kernel_rfl), trivial⟩, rfl⟩ nll
     ·replace h := Qax hb40 h
      obtain ⟨x42, hf41, h⟩ := bno h
      rcases bft ((!x42)) with hb43 | hb43
      ·replace h := Qaw hb43 h
       refine wx tbk [(2, rp [(.tmp 73, (B ((x7.2.2.2 != 0))))] (B false)), (6, rp [(.tmp 74, B false), fu 48, (.tmp 75, (Qdr p0)), (.tmp 76, (Qdi p1)), (.tmp 77, (Qgn x7))] (B x42)), (9, rp [(.tmp 80, (B ((!x42))))] (B true))] ⟨asb hb40 (amv rfl), ag_ (apc (first := []) (cap := []) (vs := [(Qdr p0), (Qdi p1), (Qgn x7)]) rfl Qqf (Qga N p0 p1 x7.1 _ hf41) rfl rfl (nlc (nld Qaa _) (nlc (nld Qac _) (nlc (nld Qaa _) nl0))) nll rfl), asb hb43 (amv rfl), trivial⟩ ?_
       refine Qf7 (by kernel_rfl) ?_
       refine wx tbk [] trivial ?_
       refine Qag ?_
       refine Qay ?_
       obtain rfl := osi h
       exact fend ⟨[B false], ⟨rot (by kernel_rfl), trivial⟩, rfl⟩ nll
      ·replace h := Qax hb43 h
       obtain ⟨x45, hf44, h⟩ := bno h
       rcases bft ((x7.2.1 != x45)) with hb46 | hb46
       ·replace h := Qaw hb46 h
        refine wx tbk [(2, rp [(.tmp 73, (B ((x7.2.2.2 != 0))))] (B false)), (6, rp [(.tmp 74, B false), fu 48, (.tmp 75, (Qdr p0)), (.tmp 76, (Qdi p1)), (.tmp 77, (Qgn x7))] (B x42)), (9, rp [(.tmp 80, (B ((!x42))))] (B false)), (13, rp [(.tmp 81, B false), fu 49, (.tmp 83, (Qdi p1)), (.tmp 84, (Qgn x7))] (I x45)), (16, rp [(.tmp 87, (B ((x7.2.1 != x45))))] (B true))] ⟨asb hb40 (amv rfl), ag_ (apc (first := []) (cap := []) (vs := [(Qdr p0), (Qdi p1), (Qgn x7)]) rfl Qqf (Qga N p0 p1 x7.1 _ hf41) rfl rfl (nlc (nld Qaa _) (nlc (nld Qac _) (nlc (nld Qaa _) nl0))) nll rfl), asb hb43 (amv rfl), ag_ (apc (first := []) (cap := []) (vs := [(Qdi p1), (Qgn x7)]) rfl Qsz (Qif N p1 x7.1 _ hf44) rfl rfl (nlc (nld Qac _) (nlc (nld Qaa _) nl0)) nll rfl), asb hb46 (amv rfl), trivial⟩ ?_
        refine Qf7 (by kernel_rfl) ?_
        refine wx tbk [] trivial ?_
        refine Qag ?_
        refine Qay ?_
        obtain rfl := osi h
        exact fend ⟨[B false], ⟨rot (by kernel_rfl), trivial⟩, rfl⟩ nll
       ·replace h := Qax hb46 h
        obtain ⟨x48, hf47, h⟩ := bno h
        rcases bft ((x7.2.1 != x48)) with hb49 | hb49
        ·replace h := Qaw hb49 h
         refine wx tbk [(2, rp [(.tmp 73, (B ((x7.2.2.2 != 0))))] (B false)), (6, rp [(.tmp 74, B false), fu 48, (.tmp 75, (Qdr p0)), (.tmp 76, (Qdi p1)), (.tmp 77, (Qgn x7))] (B x42)), (9, rp [(.tmp 80, (B ((!x42))))] (B false)), (13, rp [(.tmp 81, B false), fu 49, (.tmp 83, (Qdi p1)), (.tmp 84, (Qgn x7))] (I x45)), (16, rp [(.tmp 87, (B ((x7.2.1 != x45))))] (B false)), (20, rp [(.tmp 88, B false), fu 50, (.tmp 90, (Qdr p0)), (.tmp 91, (Qdi p1))] (I x48)), (23, rp [(.tmp 94, (B ((x7.2.1 != x48))))] (B true))] ⟨asb hb40 (amv rfl), ag_ (apc (first := []) (cap := []) (vs := [(Qdr p0), (Qdi p1), (Qgn x7)]) rfl Qqf (Qga N p0 p1 x7.1 _ hf41) rfl rfl (nlc (nld Qaa _) (nlc (nld Qac _) (nlc (nld Qaa _) nl0))) nll rfl), asb hb43 (amv rfl), ag_ (apc (first := []) (cap := []) (vs := [(Qdi p1), (Qgn x7)]) rfl Qsz (Qif N p1 x7.1 _ hf44) rfl rfl (nlc (nld Qac _) (nlc (nld Qaa _) nl0)) nll rfl), asb hb46 (amv rfl), ag_ (apc (first := []) (cap := []) (vs := [(Qdr p0), (Qdi p1)]) rfl Qwo (Qkc N p0 p1 _ hf47) rfl rfl (nlc (nld Qaa _) (nlc (nld Qac _) nl0)) nll rfl), asb hb49 (amv rfl), trivial⟩ ?_
         refine Qf7 (by kernel_rfl) ?_
         refine wx tbk [] trivial ?_
         refine Qag ?_
         refine Qay ?_
         obtain rfl := osi h
         exact fend ⟨[B false], ⟨rot (by kernel_rfl), trivial⟩, rfl⟩ nll
        ·replace h := Qax hb49 h
         obtain ⟨x51, hf50, h⟩ := bno h
         rcases bft ((!x51)) with hb52 | hb52
         ·replace h := Qaw hb52 h
          refine wx tbk [(2, rp [(.tmp 73, (B ((x7.2.2.2 != 0))))] (B false)), (6, rp [(.tmp 74, B false), fu 48, (.tmp 75, (Qdr p0)), (.tmp 76, (Qdi p1)), (.tmp 77, (Qgn x7))] (B x42)), (9, rp [(.tmp 80, (B ((!x42))))] (B false)), (13, rp [(.tmp 81, B false), fu 49, (.tmp 83, (Qdi p1)), (.tmp 84, (Qgn x7))] (I x45)), (16, rp [(.tmp 87, (B ((x7.2.1 != x45))))] (B false)), (20, rp [(.tmp 88, B false), fu 50, (.tmp 90, (Qdr p0)), (.tmp 91, (Qdi p1))] (I x48)), (23, rp [(.tmp 94, (B ((x7.2.1 != x48))))] (B false)), (26, rp [(.tmp 95, B false), fu 51, (.tmp 96, (Qdr p0)), (.tmp 97, (Qlt x7))] (B x51)), (29, rp [(.tmp 100, (B ((!x51))))] (B true))] ⟨asb hb40 (amv rfl), ag_ (apc (first := []) (cap := []) (vs := [(Qdr p0), (Qdi p1), (Qgn x7)]) rfl Qqf (Qga N p0 p1 x7.1 _ hf41) rfl rfl (nlc (nld Qaa _) (nlc (nld Qac _) (nlc (nld Qaa _) nl0))) nll rfl), asb hb43 (amv rfl), ag_ (apc (first := []) (cap := []) (vs := [(Qdi p1), (Qgn x7)]) rfl Qsz (Qif N p1 x7.1 _ hf44) rfl rfl (nlc (nld Qac _) (nlc (nld Qaa _) nl0)) nll rfl), asb hb46 (amv rfl), ag_ (apc (first := []) (cap := []) (vs := [(Qdr p0), (Qdi p1)]) rfl Qwo (Qkc N p0 p1 _ hf47) rfl rfl (nlc (nld Qaa _) (nlc (nld Qac _) nl0)) nll rfl), asb hb49 (amv rfl), ag_ (apc (first := []) (cap := []) (vs := [(Qdr p0), (Qlt x7)]) rfl Qwn (Qgo N p0 x7.2.2.1 _ hf50) rfl rfl (nlc (nld Qaa _) (nlc (nld Qaa _) nl0)) nll rfl), asb hb52 (amv rfl), trivial⟩ ?_
          refine Qf7 (by kernel_rfl) ?_
          refine wx tbk [] trivial ?_
          refine Qag ?_
          refine Qay ?_
          obtain rfl := osi h
          exact fend ⟨[B false], ⟨rot (by kernel_rfl), trivial⟩, rfl⟩ nll
         ·replace h := Qax hb52 h
          obtain ⟨x54, hf53, h⟩ := bno h
          refine wx tbk [(2, rp [(.tmp 73, (B ((x7.2.2.2 != 0))))] (B false)), (6, rp [(.tmp 74, B false), fu 48, (.tmp 75, (Qdr p0)), (.tmp 76, (Qdi p1)), (.tmp 77, (Qgn x7))] (B x42)), (9, rp [(.tmp 80, (B ((!x42))))] (B false)), (13, rp [(.tmp 81, B false), fu 49, (.tmp 83, (Qdi p1)), (.tmp 84, (Qgn x7))] (I x45)), (16, rp [(.tmp 87, (B ((x7.2.1 != x45))))] (B false)), (20, rp [(.tmp 88, B false), fu 50, (.tmp 90, (Qdr p0)), (.tmp 91, (Qdi p1))] (I x48)), (23, rp [(.tmp 94, (B ((x7.2.1 != x48))))] (B false)), (26, rp [(.tmp 95, B false), fu 51, (.tmp 96, (Qdr p0)), (.tmp 97, (Qlt x7))] (B x51)), (29, rp [(.tmp 100, (B ((!x51))))] (B false)), (33, rp [(.tmp 101, B false), fu 52, (.tmp 102, (Qdr p0)), (.tmp 103, (Qdi p1)), (.tmp 104, (Qlt x7))] (I x54))] ⟨asb hb40 (amv rfl), ag_ (apc (first := []) (cap := []) (vs := [(Qdr p0), (Qdi p1), (Qgn x7)]) rfl Qqf (Qga N p0 p1 x7.1 _ hf41) rfl rfl (nlc (nld Qaa _) (nlc (nld Qac _) (nlc (nld Qaa _) nl0))) nll rfl), asb hb43 (amv rfl), ag_ (apc (first := []) (cap := []) (vs := [(Qdi p1), (Qgn x7)]) rfl Qsz (Qif N p1 x7.1 _ hf44) rfl rfl (nlc (nld Qac _) (nlc (nld Qaa _) nl0)) nll rfl), asb hb46 (amv rfl), ag_ (apc (first := []) (cap := []) (vs := [(Qdr p0), (Qdi p1)]) rfl Qwo (Qkc N p0 p1 _ hf47) rfl rfl (nlc (nld Qaa _) (nlc (nld Qac _) nl0)) nll rfl), asb hb49 (amv rfl), ag_ (apc (first := []) (cap := []) (vs := [(Qdr p0), (Qlt x7)]) rfl Qwn (Qgo N p0 x7.2.2.1 _ hf50) rfl rfl (nlc (nld Qaa _) (nlc (nld Qaa _) nl0)) nll rfl), asb hb52 (amv rfl), ag_ (apc (first := []) (cap := []) (vs := [(Qdr p0), (Qdi p1), (Qlt x7)]) rfl Qwm (Qjr N p0 p1 x7.2.2.1 _ hf53) rfl rfl (nlc (nld Qaa _) (nlc (nld Qac _) (nlc (nld Qaa _) nl0))) nll rfl), trivial⟩ ?_
          rcases bft ((x54 != x7.2.1)) with hc55 | hc55
          ·replace h := Qaw hc55 h
           refine wft hc55 (by kernel_rfl) ?_
           refine wx tbk [] trivial ?_
           refine Qag ?_
           refine Qay ?_
           obtain rfl := osi h
           exact fend ⟨[B false], ⟨rot (by kernel_rfl), trivial⟩, rfl⟩ nll
          ·replace h := Qax hc55 h
           refine wfn hc55 (by kernel_rfl) ?_
           refine Qak ?_
           refine thn ?_
           exact ⟨(), h, (mto (n := 135) [(0, (Qdr p0)), (1, (Qdi p1)), (2, (Qkk p2)), (11, I x15.1), (12, I x15.2)] [] [] hφ0 (pc (.rn (.plain _ (nld Qaa _))) (pc (.rn (.plain _ (nld Qac _))) (pc (.rn (.plain _ (nld Qaa _))) (pc rwl (pc rwl pn))))) qn)⟩
  ·skip
   obtain ⟨x57, hf56, h⟩ := bno h
   rcases bft ((!x57)) with hb58 | hb58
   ·replace h := Qaw hb58 h
    refine wx tbk [(2, rp [fu 43, (.tmp 13, (Qdr p0)), (.tmp 14, (Qdi p1))] (B x57)), (4, rp [(.tmp 16, (B ((!x57))))] (B true))] ⟨apc (first := []) (cap := []) (vs := [(Qdr p0), (Qdi p1)]) rfl enter43 (Qn0 N p0 p1 _ hf56) rfl rfl (nlc (nld Qaa _) (nlc (nld Qac _) nl0)) nll rfl, asb hb58 (amv rfl), trivial⟩ ?_
    refine Qf7 (by kernel_rfl) ?_
    obtain ⟨x60, hf59, h⟩ := bno h
    refine wx tbk [(0, rp [fu 17] (B x60))] ⟨apc (first := []) (cap := []) (vs := []) rfl Qqg (Qgs 2000  _ hf59) rfl rfl nl0 nll rfl, trivial⟩ ?_
    refine Qag ?_
    refine Qay ?_
    obtain rfl := osi h
    exact fend ⟨[B x60], ⟨rot (by kernel_rfl), trivial⟩, rfl⟩ nll
   ·replace h := Qax hb58 h
    refine wx tbk [(2, rp [fu 43, (.tmp 13, (Qdr p0)), (.tmp 14, (Qdi p1))] (B x57)), (4, rp [(.tmp 16, (B ((!x57))))] (B false)), (6, rp [(.tmp 17, B false), (.tmp 18, (Qkk p2))] (I ((p2.length : Int))))] ⟨apc (first := []) (cap := []) (vs := [(Qdr p0), (Qdi p1)]) rfl enter43 (Qn0 N p0 p1 _ hf56) rfl rfl (nlc (nld Qaa _) (nlc (nld Qac _) nl0)) nll rfl, asb hb58 (amv rfl), ag_ (alm (c := Qab) (l := p2) (aln rfl Try.underlying37 rfl)), trivial⟩ ?_
    rcases bft ((decide ((p2.length : Int) > 10))) with hc61 | hc61
    ·replace h := Qaw hc61 h
     refine wft hc61 (by kernel_rfl) ?_
     obtain ⟨x63, hf62, h⟩ := bno h
     refine wx tbk [(0, rp [fu 17] (B x63))] ⟨apc (first := []) (cap := []) (vs := []) rfl Qqg (Qgs 2000  _ hf62) rfl rfl nl0 nll rfl, trivial⟩ ?_
     refine Qag ?_
     refine Qay ?_
     obtain rfl := osi h
     exact fend ⟨[B x63], ⟨rot (by kernel_rfl), trivial⟩, rfl⟩ nll
    ·replace h := Qax hc61 h
     refine wfn hc61 (by kernel_rfl) ?_
     refine Qak ?_
     refine thn ?_
     exact ⟨(), h, (mto (n := 135) [(0, (Qdr p0)), (1, (Qdi p1)), (2, (Qkk p2))] [] [] hφ0 (pc (.rn (.plain _ (nld Qaa _))) (pc (.rn (.plain _ (nld Qac _))) (pc (.rn (.plain _ (nld Qaa _))) pn))) qn)⟩
end Go.Proofs.Ytlhakkkjgdbdpaa
