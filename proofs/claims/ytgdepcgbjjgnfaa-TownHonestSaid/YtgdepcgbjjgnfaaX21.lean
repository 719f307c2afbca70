/-
  Functions of the program: what they compute, as plain functions, and that they do. No conditions.
-/
import Derived.Test.YtgdepcgbjjgnfaaX12
namespace Go.Proofs.Ytgdepcgbjjgnfaa
open Go.RowKit
def Qa8 (N : Nat) (p0 : (List GNode)) (p1 : GMeters) (k12 : (List GRange) → Option ((List GRange) × Int)) : (List (Int × GNode)) → (List GRange) → (List GRange) → Option ((List GRange) × Int)
  | [], y18, _ =>
    k12 (y18)
  | x23 :: q24, y18, y19 =>
    (getI p1.Use x23.1).bind fun x32 =>
    chk (decide (0 ≤ x23.1) && decide (x23.1.toNat < (p0.length : Int).toNat)) <|
    (y19[x23.1.toNat]?).bind fun x37 =>
    (Qcy N x32).bind fun x40 =>
    chk (decide (0 ≤ x23.1) && decide (x23.1.toNat < (p0.length : Int).toNat)) <|
    (y19[x23.1.toNat]?).bind fun x42 =>
    (Qcy N x32).bind fun x45 =>
    Qcv (fun y46 =>
      Qcv (fun y48 =>
        Qcv (fun ⟨y50, y51, y52⟩ =>
          bif (decide (x23.2.Parent ≥ 0)) then
           chk (decide (0 ≤ x23.2.Parent) && decide (x23.2.Parent.toNat < (p0.length : Int).toNat)) <|
           (y19[x23.2.Parent.toNat]?).bind fun x56 =>
           chk (decide (0 ≤ x23.2.Parent) && decide (x23.2.Parent.toNat < (p0.length : Int).toNat)) <|
           (y19[x23.2.Parent.toNat]?).bind fun x59 =>
           chk (decide (0 ≤ x23.2.Parent) && decide (x23.2.Parent.toNat < (p0.length : Int).toNat)) <|
           (y19[x23.2.Parent.toNat]?).bind fun _ =>
           Qa8 N p0 p1 k12 q24 y50 (y19.set x23.2.Parent.toNat (⟨w64 (x56.Lo + y51), w64 (x59.Hi + y52)⟩ : GRange))
          else
           Qa8 N p0 p1 k12 q24 y50 y19) fun k53 : (List GRange) × Int × Int → Option ((List GRange) × Int) =>
        (getI p1.Has x23.1).bind fun x64 =>
        bif x64 then
         (getI p1.Flow x23.1).bind fun x69 =>
         (Qcy N x69).bind fun x74 =>
         chk (decide (0 ≤ x23.1) && decide (x23.1.toNat < (p0.length : Int).toNat)) <|
         (y18[x23.1.toNat]?).bind fun _ =>
         k53 (y18.set x23.1.toNat (⟨w64 (x74.Lo - y48), w64 (x74.Hi - y46)⟩ : GRange), x74.Lo, x74.Hi)
        else
         k53 (y18, y46, y48)) fun k49 : Int → Option ((List GRange) × Int) =>
      bif (decide ((w64 (x42.Hi + x45.Hi)) > 0)) then
       k49 (w64 ((w64 (x42.Hi + x45.Hi)) + x23.2.Loss))
      else
       k49 (w64 (x42.Hi + x45.Hi))) fun k47 : Int → Option ((List GRange) × Int) =>
    bif (decide ((w64 (x37.Lo + x40.Lo)) > 0)) then
     k47 (w64 ((w64 (x37.Lo + x40.Lo)) + x23.2.Loss))
    else
     k47 (w64 (x37.Lo + x40.Lo))
def Qcx (N : Nat) (p0 : (List GNode)) (p1 : GMeters) (k8 : Unit → Option ((List GRange) × Int)) : Nat → Int → Option ((List GRange) × Int)
  | 0, _ => none
  | n82 + 1, y80 =>
    bif (decide (y80 < (p0.length : Int))) then
     (getI p1.Use y80).bind fun x84 =>
     (Qdx N x84).bind fun x89 =>
     bif (!x89) then
      some ([], 2)
     else
      (getI p1.Has y80).bind fun x91 =>
      bif x91 then
       (getI p1.Flow y80).bind fun x96 =>
       (Qdx N x96).bind fun x101 =>
       bif (!x101) then
        some ([], 2)
       else
        Qcx N p0 p1 k8 n82 (w64 (y80 + 1))
      else
       Qcx N p0 p1 k8 n82 (w64 (y80 + 1))
    else
     k8 ()
def Qen (N : Nat) (p0 : (List GNode)) (p1 : GMeters) : Option ((List GRange) × Int) :=
  (Qel N p0).bind fun x5 =>
  bif (!x5) then
   some ([], 1)
  else
   Qcv (fun _ =>
     Qcv (fun _ =>
       chk (decide (0 ≤ (p0.length : Int)) && decide (16 * (p0.length : Int) ≤ 281474976710656) && decide ((p0.length : Int) ≤ 9223372036854775807)) <|
       chk (decide (0 ≤ (p0.length : Int)) && decide (16 * (p0.length : Int) ≤ 281474976710656) && decide ((p0.length : Int) ≤ 9223372036854775807)) <|
       Qcv (fun y11 =>
         chk (decide ((p0.length : Int).toNat ≤ y11.length)) <|
         some (y11.take ((p0.length : Int).toNat), 0)) fun k12 : (List GRange) → Option ((List GRange) × Int) =>
       (Qa4 N p0).bind fun _ =>
       (Qa3 N p0).bind fun q16 =>
       Qa8 N p0 p1 k12 q16 (List.replicate (p0.length : Int).toNat (⟨0, 0⟩ : GRange)) (List.replicate (p0.length : Int).toNat (⟨0, 0⟩ : GRange))) fun k8 : Unit → Option ((List GRange) × Int) =>
     Qcx N p0 p1 k8 N 0) fun k7 : Unit → Option ((List GRange) × Int) =>
   bif ((p1.Use.length : Int) != (p0.length : Int)) then
    some ([], 2)
   else
    bif ((p1.Flow.length : Int) != (p0.length : Int)) then
     some ([], 2)
    else
     bif ((p1.Has.length : Int) != (p0.length : Int)) then
      some ([], 2)
     else
      k7 ()
def Qeu (p0 : (List GNode)) : AV := .dat 4 ((p0 : List GNode).map Qac)
def Qfv : AV := .dat 2 (([] : List GRange).map Qa2)
def Qlt (p1 : GMeters) : AV := .dat 2 ((p1.Use : List GMeter).map Qay)
def Qp8 (p1 : GMeters) : AV := .dat 2 ((p1.Flow : List GMeter).map Qay)
def Qp7 (p1 : GMeters) : AV := .dat 1 ((p1.Has : List Bool).map Qan)
def Qe8 (p1 : GMeters) : Slot := .own 3 [[(Qlt p1), (Qp8 p1), (Qp7 p1)]]
def Qle (p0 : (List GNode)) : Slot := .own 2 ((List.replicate (p0.length : Int).toNat (⟨0, 0⟩ : GRange) : List GRange).map Qa2)
def Qmc (y11 : (List GRange)) (p0 : (List GNode)) : AV := .dat 2 ((y11.take ((p0.length : Int).toNat) : List GRange).map Qa2)
def Qrn : AV := .fn (.func 105) [] [(.ref 5 1 (0) 0)]
def Qh0 : AV := .fn (.func 105) [] [(.ref 3 1 (0) 0)]
def Qfs (p0 : (List GNode)) : Slot := .own 1 [[(.own 4 2 (0) ((p0.length : Int).toNat))]]
def Qfx (p0 : (List GNode)) : Slot := .own 1 [[(.own 5 2 (0) ((p0.length : Int).toNat))]]
def Qf4 (y18 : (List GRange)) : Slot := .own 2 ((y18 : List GRange).map Qa2)
def Qdu (y19 : (List GRange)) : Slot := .own 2 ((y19 : List GRange).map Qa2)
def Qii (x32 : GMeter) : AV := .agg [(I (x32.Reading)), (I (x32.Off))]
def Qg3 (x23 : (Int × GNode)) : Slot := .own 4 [[(I (x23.2.Parent)), (I (x23.2.Loss)), (I (x23.2.Limit)), (I (x23.2.Rank))]]
def Qkp (y50 : (List GRange)) : Slot := .own 2 ((y50 : List GRange).map Qa2)
def Qjk (x84 : GMeter) : AV := .agg [(I (x84.Reading)), (I (x84.Off))]
set_option maxRecDepth 100000 in
set_option maxHeartbeats 4000000 in
theorem Ql3 (N : Nat) (p0 : (List GNode)) (p1 : GMeters) (r : ((List GRange) × Int)) (h : Qen N p0 p1 = some r) : Spec Try.prog 50 [(.dat 4 (p0.map Qac)), (.agg (Qxb p1))] [] (.tup [(.dat 2 ((r.1 : List GRange).map Qa2)), (I (r.2))]) [] := by
  refine Qaj Try.func50 rfl 0 (nle rfl) (fun X φ0 w0 hφ0 => ?_)
  unfold Qen at h
  refine Qc3 ?_
  refine wx tbk [] trivial ?_
  refine wsq ?_
  obtain ⟨x5, hf4, h⟩ := bno h
  refine wx tbk [(1, rp [fu 80, (.tmp 14, (Qeu p0))] (B x5))] ⟨apc (first := []) (cap := []) (vs := [(Qeu p0)]) rfl Qw0 (Qhe N p0 _ hf4) rfl rfl (nlc (nld Qab _) nl0) nll rfl, trivial⟩ ?_
  rcases bft ((!x5)) with hc6 | hc6
  ·replace h := Qar hc6 h
   refine wft hc6 (by kernel_rfl) ?_
   refine wx tbk [] trivial ?_
   refine wmr (mto (n := 174) (l' := [(4, Qfv), (5, I 1)]) (own' := []) [(4, nilS), (5, I 1)] [] [] hφ0 (pc (.nil _) (pc rwl pn)) qn) ?_
   refine Qai ?_
   refine Qag ?_
   obtain rfl := osi h
   exact ⟨_, Mor.rfl, Qc2 (vs := [Qfv, I 1]) ⟨rot (by kernel_rfl), rot (by kernel_rfl), trivial⟩ rfl (NLt.tup _ (nlc (nld Qbe _) (nlc nll nl0))) (by kernel_rfl) Qbu⟩
  ·replace h := Qas hc6 h
   refine wfn hc6 (by kernel_rfl) ?_
   refine Qaf ?_
   refine thn ?_
   obtain ⟨k7, hk_k7, h⟩ := jko h
   refine wjn (τ := Unit) (fun t => k7 t = some r) (fun _ => ⟨mk 174 [(0, (Qeu p0)), (3, .ref 0 3 0 0)], [(Qe8 p1)]⟩) (fun t h => ?_) ?_
   ·subst hk_k7
    obtain ⟨k8, hk_k8, h⟩ := jko h
    refine wjn (τ := Unit) (fun t => k8 t = some r) (fun _ => ⟨mk 174 [(0, (Qeu p0)), (3, .ref 0 3 0 0)], [(Qe8 p1)]⟩) (fun t h => ?_) ?_
    ·subst hk_k8
     obtain ⟨hm9, h⟩ := cko h
     obtain ⟨hm10, h⟩ := cko h
     refine wxd tbk [(1, rp [(.tmp 68, (Qeu p0))] (I ((p0.length : Int)))), (2, ⟨[(.tmp 69, (I ((p0.length : Int)))), (.tmp 69, (I ((p0.length : Int))))], [(1, .unused)], (.own 1 2 (0) ((p0.length : Int).toNat)), [(1, (Qle p0))], false⟩), (4, rp [(.tmp 71, (Qeu p0))] (I ((p0.length : Int)))), (5, ⟨[(.tmp 72, (I ((p0.length : Int)))), (.tmp 72, (I ((p0.length : Int))))], [(2, .unused)], (.own 2 2 (0) ((p0.length : Int).toNat)), [(2, (Qle p0))], false⟩)] ⟨alm (c := Qac) (l := p0) (aln rfl Try.underlying31 rfl), Qgl rfl Try.underlying100 te93 tz93 rfl (Qsk hm9) rfl (Qsj hm9) (Qnp hm9) (Qkd Qa2 rfl), alm (c := Qac) (l := p0) (aln rfl Try.underlying31 rfl), Qgl rfl Try.underlying100 te93 tz93 rfl (Qsk hm10) rfl (Qsj hm10) (Qnp hm10) (Qkd Qa2 rfl), trivial⟩ ?_
     obtain ⟨k12, hk_k12, h⟩ := jko h
     refine wjn (τ := (List GRange)) (fun t => k12 t = some r) (fun y11 => ⟨mk 174 [(7, .ref 0 1 0 0)], [(.own 1 [[(.own 1 2 (0) ((p0.length : Int).toNat))]]), (.own 2 ((y11 : List GRange).map Qa2))]⟩) (fun y11 h => ?_) ?_
     ·subst hk_k12
      refine wx tbk [] trivial ?_
      obtain ⟨hz13, h⟩ := cko h
      refine wmr (Qm6 (n := 174) (l' := [(4, (Qmc y11 p0)), (5, I 0)]) 1 [(4, (.own 1 2 (0) ((p0.length : Int).toNat))), (5, I 0)] (by kernel_rfl) (by kernel_rfl) (by kernel_rfl) ⟨rfl, (Qjc hz13), rfl, (.same _), trivial⟩ rfl) ?_
      refine wmr (mto (n := 174) (l' := [(4, (Qmc y11 p0)), (5, I 0)]) (own' := []) [(4, (Qmc y11 p0)), (5, I 0)] [] [] hφ0 (pc (.rn (.plain _ (nld Qbe _))) (pc rwl pn)) qn) ?_
      refine Qai ?_
      obtain rfl := osi h
      exact ⟨_, Mor.rfl, Qc2 (vs := [(Qmc y11 p0), I 0]) ⟨rot (by kernel_rfl), rot (by kernel_rfl), trivial⟩ rfl (NLt.tup _ (nlc (nld Qbe _) (nlc nll nl0))) (by kernel_rfl) Qbu⟩
     ·skip
      obtain ⟨x15, hf14, h⟩ := bno h
      refine wx tbk [(1, ⟨[fu 86, (.tmp 74, (Qeu p0))], [(5, .unused)], Qrn, [(5, (.own 1 [[(Qeu p0)]]))], false⟩)] ⟨Qaz (first := []) (cap := []) (vs := [(Qeu p0)]) (σr := []) (σr' := [(.own 1 [[(Qeu p0)]])]) (res' := Qrn) [5] rfl Qr1 (Qcu N p0 _ hf14) rfl (Qc5 (rnc (.plain _ (nld Qab _)) rn0)) Qau (slc (Qal (rnc (.plain _ (nld Qab _)) rn0)) Qau) (Qaw rn0 (rnc (Qga rfl) rn0)) rfl rfl rfl, trivial⟩ ?_
      refine Qah ?_
      obtain ⟨q16, hL17, h⟩ := bno h
      refine wmr (mto (n := 174) (l' := [(3, .ref 0 3 0 0), (7, .ref 1 1 0 0), (8, .ref 2 1 0 0), (75, Qh0)]) (own' := [(Qe8 p1), (Qfs p0), (Qfx p0), (.own 1 [[(Qeu p0)]]), (Qle p0), (Qle p0)]) [(3, .ref 0 3 0 0), (7, .ref 3 1 0 0), (8, .ref 4 1 0 0), (75, Qrn)] [0, 3, 4, 5, 1, 2] [(Qe8 p1), (.own 1 [[(.own 1 2 (0) ((p0.length : Int).toNat))]]), (.own 1 [[(.own 2 2 (0) ((p0.length : Int).toNat))]]), (.own 1 [[(Qeu p0)]]), (Qle p0), (Qle p0)] hφ0 (pc (.rn (rqr rfl)) (pc (.rn (rqr rfl)) (pc (.rn (rqr rfl)) (pc (.rn (Qaw rn0 (rnc (rqr rfl) rn0))) pn)))) (qc (spb (lc (.rn (.plain _ (nld Qam _))) (lc (.rn (.plain _ (nld Qam _))) (lc (.rn (.plain _ (nld Qbv _))) ln)))) (qc (spb (lc (.rn (Qae rfl)) ln)) (qc (spb (lc (.rn (Qae rfl)) ln)) (qc (spb (lc (.rn (.plain _ (nld Qab _))) ln)) (qc (spr Qbe) (qc (spr Qbe) qn))))))) ?_
      refine Qid (τ := ((List GRange) × (List GRange))) (kb := 6) (caps := [.ref 3 1 0 0]) (σr := [(.own 1 [[(Qeu p0)]])]) (encs := fun x => [(.int .i64 (x.1)), (.agg #[(.int .i64 (x.2.Parent)), (.int .i64 (x.2.Loss)), (.int .i64 (x.2.Limit)), (.int .i64 (x.2.Rank))])]) (fun x => [I x.1, (.agg [I x.2.Parent, I x.2.Loss, I x.2.Limit, I x.2.Rank])]) [3] (fun n hn => hφ0 n (Nat.le_trans (nle rfl) hn)) (Qct N p0 _ hL17) Qpm (by kernel_rfl) (by kernel_rfl) (Qc5 (rnc (Qga rfl) rn0)) (slc (Qal (rnc (.plain _ (nld Qab _)) rn0)) Qau) (by kernel_rfl) (fun _ => rfl) (fun x => ⟨lrf, (Less.unlits [(.int .i64 (x.2.Parent)), (.int .i64 (x.2.Loss)), (.int .i64 (x.2.Limit)), (.int .i64 (x.2.Rank))]), trivial⟩) (Qql (Qee (NLt.ref _ _ _ _ (by decide)) (Qee (NLt.ref _ _ _ _ (by decide)) (Qee (NLt.ref _ _ _ _ (by decide)) (Qee (NLt.fn _ _ _ nl0 (nlc (NLt.ref _ _ _ _ (by decide)) nl0)) Qm3))))) (fun ⟨y18, y19⟩ => [(Qe8 p1), (Qfs p0), (Qfx p0), .dead, (Qf4 y18), (Qdu y19)]) (fun _ => rfl) (fun _ => rfl) (fun l t => Qa8 N p0 p1 k12 l t.1 t.2 = some r) (List.replicate (p0.length : Int).toNat (⟨0, 0⟩ : GRange), List.replicate (p0.length : Int).toNat (⟨0, 0⟩ : GRange)) h (by kernel_rfl) ?_ ?_
      ·intro l25 o26 X29 φ30 w31 hφ28 x23 q24 t h
       obtain ⟨y18, y19⟩ := t
       rw [Qa8] at h
       refine wx tbk [] trivial ?_
       refine wx1 tbk [] trivial ?_
       refine ⟨by kernel_rfl, fun o27 => ?_⟩
       refine Qah ?_
       obtain ⟨x32, hg33, h⟩ := bno h
       obtain ⟨hi34, hj35⟩ := gsm hg33
       refine wx tbk [(3, rp [(.tmp 79, (Qlt p1)), (.tmp 80, I x23.1)] (.dptr (Qay (x32)) 0)), (5, rp [(.tmp 82, (Qii x32))] (.fn (.func 85) [(Qii x32)] []))] ⟨aid rfl Try.underlying103 ti96 rfl rfl hi34 (mgt Qay hj35) rfl, Qf3 (fs := [(Qii x32)]) (cs := []) rfl rfl rfl rfl, trivial⟩ ?_
       obtain ⟨hi36, h⟩ := cko h
       obtain ⟨hi36a, hi36b⟩ := Qa5 hi36
       obtain ⟨x37, hg38, h⟩ := bno h
       obtain ⟨x40, hf39, h⟩ := bno h
       obtain ⟨hi41, h⟩ := cko h
       obtain ⟨hi41a, hi41b⟩ := Qa5 hi41
       obtain ⟨x42, hg43, h⟩ := bno h
       obtain ⟨x45, hf44, h⟩ := bno h
       refine wxd tbk [(2, rb [(.tmp 84, (.own 5 2 (0) ((p0.length : Int).toNat))), (.tmp 85, I x23.1)] [(5, (Qdu y19))] (.ref 5 2 (x23.1.toNat) 0)), (4, rb [(.tmp 87, (.ref 5 2 (x23.1.toNat) 0))] [(5, (Qdu y19))] (I x37.Lo)), (6, rp [(.tmp 89, (.fn (.func 85) [(Qii x32)] []))] (.agg [I x40.Lo, I x40.Hi])), (11, rb [(.tmp 93, (.own 5 2 (0) ((p0.length : Int).toNat))), (.tmp 94, I x23.1)] [(5, (Qdu y19))] (.ref 5 2 (x23.1.toNat) 0)), (13, rb [(.tmp 96, (.ref 5 2 (x23.1.toNat) 1))] [(5, (Qdu y19))] (I x42.Hi)), (15, rp [(.tmp 98, (.fn (.func 85) [(Qii x32)] []))] (.agg [I x45.Lo, I x45.Hi])), (18, rp [(.tmp 92, (I (w64 (x37.Lo + x40.Lo)))), (.tmp 101, (I (w64 (x42.Hi + x45.Hi))))] (.agg [(I (w64 (x37.Lo + x40.Lo))), (I (w64 (x42.Hi + x45.Hi)))]))] ⟨aio rfl Try.underlying100 ti93 (odt hi36a) (odt hi36b) (Nat.zero_add _), ald rfl ti3 (by decide) (mgt Qa2 hg38) (nle rfl) rfl, apc (first := [(Qii x32)]) (cap := []) (vs := []) rfl Qpj (Qej N x32 _ hf39) rfl rfl (nlc (NLt.agg _ (nlc nll (nlc nll nl0))) nl0) (NLt.agg _ (nlc nll (nlc nll nl0))) rfl, aio rfl Try.underlying100 ti93 (odt hi41a) (odt hi41b) (Nat.zero_add _), ald rfl ti3 (by decide) (mgt Qa2 hg43) (nle rfl) rfl, apc (first := [(Qii x32)]) (cap := []) (vs := []) rfl Qpj (Qej N x32 _ hf44) rfl rfl (nlc (NLt.agg _ (nlc nll (nlc nll nl0))) nl0) (NLt.agg _ (nlc nll (nlc nll nl0))) rfl, Qa6 (vs := [(I (w64 (x37.Lo + x40.Lo))), (I (w64 (x42.Hi + x45.Hi)))]) rfl ts93 tz93 rfl (by rfl) rfl, trivial⟩ ?_
       obtain ⟨k47, hk_k47, h⟩ := jko h
       refine wjn (τ := Int) (fun t => k47 t = some r) (fun y46 => ⟨mk 174 [(3, .ref 0 3 0 0), (7, .ref 1 1 0 0), (8, .ref 2 1 0 0), (9, I x23.1), (10, .ref 7 4 0 0), (12, .ref 8 2 0 0), (75, Qh0)], [(Qe8 p1), (Qfs p0), (Qfx p0), .dead, (Qf4 y18), (Qdu y19), (.far (farL l25 o27)), (Qg3 x23), (.own 2 [[I y46, (I (w64 (x42.Hi + x45.Hi)))]])]⟩) (fun y46 h => ?_) ?_
       ·subst hk_k47
        obtain ⟨k49, hk_k49, h⟩ := jko h
        refine wjn (τ := Int) (fun t => k49 t = some r) (fun y48 => ⟨mk 174 [(3, .ref 0 3 0 0), (7, .ref 1 1 0 0), (8, .ref 2 1 0 0), (9, I x23.1), (10, .ref 7 4 0 0), (12, .ref 8 2 0 0), (75, Qh0)], [(Qe8 p1), (Qfs p0), (Qfx p0), .dead, (Qf4 y18), (Qdu y19), (.far (farL l25 o27)), (Qg3 x23), (.own 2 [[I y46, I y48]])]⟩) (fun y48 h => ?_) ?_
        ·subst hk_k49
         obtain ⟨k53, hk_k53, h⟩ := jko h
         refine wjn (τ := (List GRange) × Int × Int) (fun t => k53 t = some r) (fun ⟨y50, y51, y52⟩ => ⟨mk 174 [(3, .ref 0 3 0 0), (7, .ref 1 1 0 0), (8, .ref 2 1 0 0), (9, I x23.1), (10, .ref 7 4 0 0), (12, .ref 8 2 0 0), (75, Qh0)], [(Qe8 p1), (Qfs p0), (Qfx p0), .dead, (Qkp y50), (Qdu y19), (.far (farL l25 o27)), (Qg3 x23), (.own 2 [[I y51, I y52]])]⟩) (fun t h => ?_) ?_
         ·subst hk_k53
          obtain ⟨y50, y51, y52⟩ := t
          refine wx tbk [] trivial ?_
          rcases bft ((decide (x23.2.Parent ≥ 0))) with hc54 | hc54
          ·replace h := Qar hc54 h
           refine wft hc54 (by kernel_rfl) ?_
           obtain ⟨hi55, h⟩ := cko h
           obtain ⟨hi55a, hi55b⟩ := Qa5 hi55
           obtain ⟨x56, hg57, h⟩ := bno h
           obtain ⟨hi58, h⟩ := cko h
           obtain ⟨hi58a, hi58b⟩ := Qa5 hi58
           obtain ⟨x59, hg60, h⟩ := bno h
           obtain ⟨hi61, h⟩ := cko h
           obtain ⟨hi61a, hi61b⟩ := Qa5 hi61
           obtain ⟨x62, hg63, h⟩ := bno h
           refine wy1 tbk [(6, rb [(.tmp 153, (.own 5 2 (0) ((p0.length : Int).toNat))), (.tmp 155, I x23.2.Parent)] [(5, (Qdu y19))] (.ref 5 2 (x23.2.Parent.toNat) 0)), (8, rb [(.tmp 157, (.ref 5 2 (x23.2.Parent.toNat) 0))] [(5, (Qdu y19))] (I x56.Lo)), (15, rb [(.tmp 162, (.own 5 2 (0) ((p0.length : Int).toNat))), (.tmp 164, I x23.2.Parent)] [(5, (Qdu y19))] (.ref 5 2 (x23.2.Parent.toNat) 0)), (17, rb [(.tmp 166, (.ref 5 2 (x23.2.Parent.toNat) 1))] [(5, (Qdu y19))] (I x59.Hi)), (21, rp [(.tmp 161, (I (w64 (x56.Lo + y51)))), (.tmp 170, (I (w64 (x59.Hi + y52))))] (.agg [(I (w64 (x56.Lo + y51))), (I (w64 (x59.Hi + y52)))])), (22, rb [(.tmp 150, (.own 5 2 (0) ((p0.length : Int).toNat))), (.tmp 152, I x23.2.Parent)] [(5, (Qdu y19))] (.ref 5 2 (x23.2.Parent.toNat) 0)), (23, ⟨[(.tmp 172, (.ref 5 2 (x23.2.Parent.toNat) 0)), (.tmp 171, (.agg [(I (w64 (x56.Lo + y51))), (I (w64 (x59.Hi + y52)))]))], [(5, (Qdu y19))], .any, [(5, (.own 2 ((y19.set x23.2.Parent.toNat (⟨w64 (x56.Lo + y51), w64 (x59.Hi + y52)⟩ : GRange) : List GRange).map Qa2)))], false⟩)] ⟨aio rfl Try.underlying100 ti93 (odt hi55a) (odt hi55b) (Nat.zero_add _), ald rfl ti3 (by decide) (mgt Qa2 hg57) (nle rfl) rfl, aio rfl Try.underlying100 ti93 (odt hi58a) (odt hi58b) (Nat.zero_add _), ald rfl ti3 (by decide) (mgt Qa2 hg60) (nle rfl) rfl, Qa6 (vs := [(I (w64 (x56.Lo + y51))), (I (w64 (x59.Hi + y52)))]) rfl ts93 tz93 rfl (by rfl) rfl, aio rfl Try.underlying100 ti93 (odt hi61a) (odt hi61b) (Nat.zero_add _), ast rfl ti93 (by rfl) (mgt Qa2 hg63) (nle rfl) (Qei Qa2 rfl), trivial⟩ ?_
           refine bln ?_
           exact ⟨(y50, y19.set x23.2.Parent.toNat (⟨w64 (x56.Lo + y51), w64 (x59.Hi + y52)⟩ : GRange)), h, Qmx (own' := [(Qe8 p1), (Qfs p0), (Qfx p0), .dead, (Qkp y50), (.own 2 (((y19.set x23.2.Parent.toNat (⟨w64 (x56.Lo + y51), w64 (x59.Hi + y52)⟩ : GRange)) : List GRange).map Qa2)), (.far (farL l25 o27))]) [0, 1, 2, 3, 4, 5, 6] [(Qe8 p1), (Qfs p0), (Qfx p0), .dead, (Qkp y50), (.own 2 ((y19.set x23.2.Parent.toNat (⟨w64 (x56.Lo + y51), w64 (x59.Hi + y52)⟩ : GRange) : List GRange).map Qa2)), (.far (farL l25 o27))] (by kernel_rfl) (by kernel_rfl) ⟨(spb (lc (.rn (.plain _ (nld Qam _))) (lc (.rn (.plain _ (nld Qam _))) (lc (.rn (.plain _ (nld Qbv _))) ln)))), (spb (lc (.rn (Qae rfl)) ln)), (spb (lc (.rn (Qae rfl)) ln)), .dead, (spr Qbe), (spr Qbe), .far _, trivial⟩⟩
          ·replace h := Qas hc54 h
           refine wfn hc54 (by kernel_rfl) ?_
           refine Qaf ?_
           refine bln ?_
           exact ⟨(y50, y19), h, Qmx (own' := [(Qe8 p1), (Qfs p0), (Qfx p0), .dead, (Qkp y50), (Qdu y19), (.far (farL l25 o27))]) [0, 1, 2, 3, 4, 5, 6] [(Qe8 p1), (Qfs p0), (Qfx p0), .dead, (Qkp y50), (Qdu y19), (.far (farL l25 o27))] (by kernel_rfl) (by kernel_rfl) ⟨(spb (lc (.rn (.plain _ (nld Qam _))) (lc (.rn (.plain _ (nld Qam _))) (lc (.rn (.plain _ (nld Qbv _))) ln)))), (spb (lc (.rn (Qae rfl)) ln)), (spb (lc (.rn (Qae rfl)) ln)), .dead, (spr Qbe), (spr Qbe), .far _, trivial⟩⟩
         ·skip
          obtain ⟨x64, hg65, h⟩ := bno h
          obtain ⟨hi66, hj67⟩ := gsm hg65
          refine wx tbk [(3, rp [(.tmp 122, (Qp7 p1)), (.tmp 123, I x23.1)] (.dptr (Qan (x64)) 0))] ⟨aid rfl Try.underlying26 ti4 rfl rfl hi66 (mgt Qan hj67) rfl, trivial⟩ ?_
          rcases bft (x64) with hc68 | hc68
          ·replace h := Qar hc68 h
           refine wft hc68 (by kernel_rfl) ?_
           obtain ⟨x69, hg70, h⟩ := bno h
           obtain ⟨hi71, hj72⟩ := gsm hg70
           obtain ⟨x74, hf73, h⟩ := bno h
           refine wx tbk [(3, rp [(.tmp 127, (Qp8 p1)), (.tmp 128, I x23.1)] (.dptr (Qay (x69)) 0)), (5, rp [fu 85, (.tmp 130, (.agg [I x69.Reading, I x69.Off]))] (.agg [I x74.Lo, I x74.Hi]))] ⟨aid rfl Try.underlying103 ti96 rfl rfl hi71 (mgt Qay hj72) rfl, apc (first := []) (cap := []) (vs := [(.agg [I x69.Reading, I x69.Off])]) rfl Qpj (Qej N x69 _ hf73) rfl rfl (nlc (NLt.agg _ (nlc nll (nlc nll nl0))) nl0) (NLt.agg _ (nlc nll (nlc nll nl0))) rfl, trivial⟩ ?_
           obtain ⟨hi75, h⟩ := cko h
           obtain ⟨hi75a, hi75b⟩ := Qa5 hi75
           obtain ⟨x76, hg77, h⟩ := bno h
           refine wx tbk [(12, rp [(.tmp 138, (I (w64 (x74.Lo - y48)))), (.tmp 143, (I (w64 (x74.Hi - y46))))] (.agg [(I (w64 (x74.Lo - y48))), (I (w64 (x74.Hi - y46)))])), (13, rb [(.tmp 132, (.own 4 2 (0) ((p0.length : Int).toNat))), (.tmp 133, I x23.1)] [(4, (Qf4 y18))] (.ref 4 2 (x23.1.toNat) 0)), (14, ⟨[(.tmp 145, (.ref 4 2 (x23.1.toNat) 0)), (.tmp 144, (.agg [(I (w64 (x74.Lo - y48))), (I (w64 (x74.Hi - y46)))]))], [(4, (Qf4 y18))], .any, [(4, (.own 2 ((y18.set x23.1.toNat (⟨w64 (x74.Lo - y48), w64 (x74.Hi - y46)⟩ : GRange) : List GRange).map Qa2)))], false⟩)] ⟨Qa6 (vs := [(I (w64 (x74.Lo - y48))), (I (w64 (x74.Hi - y46)))]) rfl ts93 tz93 rfl (by rfl) rfl, aio rfl Try.underlying100 ti93 (odt hi75a) (odt hi75b) (Nat.zero_add _), ast rfl ti93 (by rfl) (mgt Qa2 hg77) (nle rfl) (Qei Qa2 rfl), trivial⟩ ?_
           refine wx1 tbk [] trivial ?_
           refine thn ?_
           exact ⟨(y18.set x23.1.toNat (⟨w64 (x74.Lo - y48), w64 (x74.Hi - y46)⟩ : GRange), x74.Lo, x74.Hi), h, (mto (n := 174) [(3, .ref 0 3 0 0), (7, .ref 1 1 0 0), (8, .ref 2 1 0 0), (9, I x23.1), (10, .ref 7 4 0 0), (12, .ref 8 2 0 0), (75, Qh0)] [0, 1, 2, 3, 4, 5, 6, 7, 8] [(Qe8 p1), (Qfs p0), (Qfx p0), .dead, (.own 2 ((y18.set x23.1.toNat (⟨w64 (x74.Lo - y48), w64 (x74.Hi - y46)⟩ : GRange) : List GRange).map Qa2)), (Qdu y19), (.far (farL l25 o27)), (Qg3 x23), (.own 2 [[I x74.Lo, I x74.Hi]])] hφ28 (pc (.rn (rqr rfl)) (pc (.rn (rqr rfl)) (pc (.rn (rqr rfl)) (pc rwl (pc (.rn (rqr rfl)) (pc (.rn (rqr rfl)) (pc (.rn (Qaw rn0 (rnc (rqr rfl) rn0))) pn))))))) (qc (spb (lc (.rn (.plain _ (nld Qam _))) (lc (.rn (.plain _ (nld Qam _))) (lc (.rn (.plain _ (nld Qbv _))) ln)))) (qc (spb (lc (.rn (Qae rfl)) ln)) (qc (spb (lc (.rn (Qae rfl)) ln)) (qc .dead (qc (spr Qbe) (qc (spr Qbe) (qc (.far _) (qc (spb (lc rwl (lc rwl (lc rwl (lc rwl ln))))) (qc (spb (lc rwl (lc rwl ln))) qn))))))))))⟩
          ·replace h := Qas hc68 h
           refine wfn hc68 (by kernel_rfl) ?_
           refine Qaf ?_
           refine thn ?_
           exact ⟨(y18, y46, y48), h, (mto (n := 174) [(3, .ref 0 3 0 0), (7, .ref 1 1 0 0), (8, .ref 2 1 0 0), (9, I x23.1), (10, .ref 7 4 0 0), (12, .ref 8 2 0 0), (75, Qh0)] [0, 1, 2, 3, 4, 5, 6, 7, 8] [(Qe8 p1), (Qfs p0), (Qfx p0), .dead, (Qf4 y18), (Qdu y19), (.far (farL l25 o27)), (Qg3 x23), (.own 2 [[I y46, I y48]])] hφ28 (pc (.rn (rqr rfl)) (pc (.rn (rqr rfl)) (pc (.rn (rqr rfl)) (pc rwl (pc (.rn (rqr rfl)) (pc (.rn (rqr rfl)) (pc (.rn (Qaw rn0 (rnc (rqr rfl) rn0))) pn))))))) (qc (spb (lc (.rn (.plain _ (nld Qam _))) (lc (.rn (.plain _ (nld Qam _))) (lc (.rn (.plain _ (nld Qbv _))) ln)))) (qc (spb (lc (.rn (Qae rfl)) ln)) (qc (spb (lc (.rn (Qae rfl)) ln)) (qc .dead (qc (spr Qbe) (qc (spr Qbe) (qc (.far _) (qc (spb (lc rwl (lc rwl (lc rwl (lc rwl ln))))) (qc (spb (lc rwl (lc rwl ln))) qn))))))))))⟩
        ·skip
         refine wx tbk [] trivial ?_
         rcases bft ((decide ((w64 (x42.Hi + x45.Hi)) > 0))) with hc78 | hc78
         ·replace h := Qar hc78 h
          refine wft hc78 (by kernel_rfl) ?_
          refine wx1 tbk [] trivial ?_
          refine thn ?_
          exact ⟨(w64 ((w64 (x42.Hi + x45.Hi)) + x23.2.Loss)), h, (mto (n := 174) [(3, .ref 0 3 0 0), (7, .ref 1 1 0 0), (8, .ref 2 1 0 0), (9, I x23.1), (10, .ref 7 4 0 0), (12, .ref 8 2 0 0), (75, Qh0)] [0, 1, 2, 3, 4, 5, 6, 7, 8] [(Qe8 p1), (Qfs p0), (Qfx p0), .dead, (Qf4 y18), (Qdu y19), (.far (farL l25 o27)), (Qg3 x23), (.own 2 [[I y46, (I (w64 ((w64 (x42.Hi + x45.Hi)) + x23.2.Loss)))]])] hφ28 (pc (.rn (rqr rfl)) (pc (.rn (rqr rfl)) (pc (.rn (rqr rfl)) (pc rwl (pc (.rn (rqr rfl)) (pc (.rn (rqr rfl)) (pc (.rn (Qaw rn0 (rnc (rqr rfl) rn0))) pn))))))) (qc (spb (lc (.rn (.plain _ (nld Qam _))) (lc (.rn (.plain _ (nld Qam _))) (lc (.rn (.plain _ (nld Qbv _))) ln)))) (qc (spb (lc (.rn (Qae rfl)) ln)) (qc (spb (lc (.rn (Qae rfl)) ln)) (qc .dead (qc (spr Qbe) (qc (spr Qbe) (qc (.far _) (qc (spb (lc rwl (lc rwl (lc rwl (lc rwl ln))))) (qc (spb (lc rwl (lc rwl ln))) qn))))))))))⟩
         ·replace h := Qas hc78 h
          refine wfn hc78 (by kernel_rfl) ?_
          refine Qaf ?_
          refine thn ?_
          exact ⟨(w64 (x42.Hi + x45.Hi)), h, (mto (n := 174) [(3, .ref 0 3 0 0), (7, .ref 1 1 0 0), (8, .ref 2 1 0 0), (9, I x23.1), (10, .ref 7 4 0 0), (12, .ref 8 2 0 0), (75, Qh0)] [0, 1, 2, 3, 4, 5, 6, 7, 8] [(Qe8 p1), (Qfs p0), (Qfx p0), .dead, (Qf4 y18), (Qdu y19), (.far (farL l25 o27)), (Qg3 x23), (.own 2 [[I y46, (I (w64 (x42.Hi + x45.Hi)))]])] hφ28 (pc (.rn (rqr rfl)) (pc (.rn (rqr rfl)) (pc (.rn (rqr rfl)) (pc rwl (pc (.rn (rqr rfl)) (pc (.rn (rqr rfl)) (pc (.rn (Qaw rn0 (rnc (rqr rfl) rn0))) pn))))))) (qc (spb (lc (.rn (.plain _ (nld Qam _))) (lc (.rn (.plain _ (nld Qam _))) (lc (.rn (.plain _ (nld Qbv _))) ln)))) (qc (spb (lc (.rn (Qae rfl)) ln)) (qc (spb (lc (.rn (Qae rfl)) ln)) (qc .dead (qc (spr Qbe) (qc (spr Qbe) (qc (.far _) (qc (spb (lc rwl (lc rwl (lc rwl (lc rwl ln))))) (qc (spb (lc rwl (lc rwl ln))) qn))))))))))⟩
       ·skip
        refine wx tbk [] trivial ?_
        rcases bft ((decide ((w64 (x37.Lo + x40.Lo)) > 0))) with hc79 | hc79
        ·replace h := Qar hc79 h
         refine wft hc79 (by kernel_rfl) ?_
         refine wx1 tbk [] trivial ?_
         refine thn ?_
         exact ⟨(w64 ((w64 (x37.Lo + x40.Lo)) + x23.2.Loss)), h, (mto (n := 174) [(3, .ref 0 3 0 0), (7, .ref 1 1 0 0), (8, .ref 2 1 0 0), (9, I x23.1), (10, .ref 7 4 0 0), (12, .ref 8 2 0 0), (75, Qh0)] [0, 1, 2, 3, 4, 5, 6, 7, 8] [(Qe8 p1), (Qfs p0), (Qfx p0), .dead, (Qf4 y18), (Qdu y19), (.far (farL l25 o27)), (Qg3 x23), (.own 2 [[(I (w64 ((w64 (x37.Lo + x40.Lo)) + x23.2.Loss))), (I (w64 (x42.Hi + x45.Hi)))]])] hφ28 (pc (.rn (rqr rfl)) (pc (.rn (rqr rfl)) (pc (.rn (rqr rfl)) (pc rwl (pc (.rn (rqr rfl)) (pc (.rn (rqr rfl)) (pc (.rn (Qaw rn0 (rnc (rqr rfl) rn0))) pn))))))) (qc (spb (lc (.rn (.plain _ (nld Qam _))) (lc (.rn (.plain _ (nld Qam _))) (lc (.rn (.plain _ (nld Qbv _))) ln)))) (qc (spb (lc (.rn (Qae rfl)) ln)) (qc (spb (lc (.rn (Qae rfl)) ln)) (qc .dead (qc (spr Qbe) (qc (spr Qbe) (qc (.far _) (qc (spb (lc rwl (lc rwl (lc rwl (lc rwl ln))))) (qc (spb (lc rwl (lc rwl ln))) qn))))))))))⟩
        ·replace h := Qas hc79 h
         refine wfn hc79 (by kernel_rfl) ?_
         refine Qaf ?_
         refine thn ?_
         exact ⟨(w64 (x37.Lo + x40.Lo)), h, (mto (n := 174) [(3, .ref 0 3 0 0), (7, .ref 1 1 0 0), (8, .ref 2 1 0 0), (9, I x23.1), (10, .ref 7 4 0 0), (12, .ref 8 2 0 0), (75, Qh0)] [0, 1, 2, 3, 4, 5, 6, 7, 8] [(Qe8 p1), (Qfs p0), (Qfx p0), .dead, (Qf4 y18), (Qdu y19), (.far (farL l25 o27)), (Qg3 x23), (.own 2 [[(I (w64 (x37.Lo + x40.Lo))), (I (w64 (x42.Hi + x45.Hi)))]])] hφ28 (pc (.rn (rqr rfl)) (pc (.rn (rqr rfl)) (pc (.rn (rqr rfl)) (pc rwl (pc (.rn (rqr rfl)) (pc (.rn (rqr rfl)) (pc (.rn (Qaw rn0 (rnc (rqr rfl) rn0))) pn))))))) (qc (spb (lc (.rn (.plain _ (nld Qam _))) (lc (.rn (.plain _ (nld Qam _))) (lc (.rn (.plain _ (nld Qbv _))) ln)))) (qc (spb (lc (.rn (Qae rfl)) ln)) (qc (spb (lc (.rn (Qae rfl)) ln)) (qc .dead (qc (spr Qbe) (qc (spr Qbe) (qc (.far _) (qc (spb (lc rwl (lc rwl (lc rwl (lc rwl ln))))) (qc (spb (lc rwl (lc rwl ln))) qn))))))))))⟩
      ·intro t h
       obtain ⟨y18, y19⟩ := t
       rw [Qa8] at h
       refine bln ?_
       refine thn ?_
       exact ⟨(y18), h, (mto (n := 174) [(7, .ref 1 1 0 0)] [1, 4] [(Qfs p0), (Qf4 y18)] hφ0 (pc (.rn (rqr rfl)) pn) (qc (spb (lc (.rn (Qae rfl)) ln)) (qc (spr Qbe) qn)))⟩
    ·skip
     refine wx tbk [(1, rp [(.tmp 39, (Qeu p0))] (I ((p0.length : Int))))] ⟨alm (c := Qac) (l := p0) (aln rfl Try.underlying31 rfl), trivial⟩ ?_
     refine Qah ?_
     refine wmr (mto (n := 174) (l' := [(0, (Qeu p0)), (3, .ref 0 3 0 0), (40, (I ((p0.length : Int)))), (41, I 0)]) (own' := [(Qe8 p1)]) [(0, (Qeu p0)), (3, .ref 0 3 0 0), (40, (I ((p0.length : Int)))), (41, I 0)] [0] [(Qe8 p1)] hφ0 (pc (.rn (.plain _ (nld Qab _))) (pc (.rn (rqr rfl)) (pc rwl (pc rwl pn)))) (qc (spb (lc (.rn (.plain _ (nld Qam _))) (lc (.rn (.plain _ (nld Qam _))) (lc (.rn (.plain _ (nld Qbv _))) ln)))) qn)) ?_
     refine Qb7 (τ := Int) (fun n t => Qcx N p0 p1 k8 n t = some r) (fun y80 => ⟨mk 174 [(0, (Qeu p0)), (3, .ref 0 3 0 0), (40, (I ((p0.length : Int)))), (41, I y80)], [(Qe8 p1)]⟩) (fun t h => by rw [Qcx] at h; cases h) (fun n82 ih y80 h => ?_) N (0) h
     rw [Qcx] at h
     skip
     refine wx tbk [] trivial ?_
     refine wsq ?_
     rcases bft ((decide (y80 < (p0.length : Int)))) with hc83 | hc83
     ·replace h := Qar hc83 h
      refine wft hc83 (by kernel_rfl) ?_
      refine Qaf ?_
      refine thn ?_
      refine wsq ?_
      refine Qah ?_
      refine wx tbk [] trivial ?_
      obtain ⟨x84, hg85, h⟩ := bno h
      obtain ⟨hi86, hj87⟩ := gsm hg85
      obtain ⟨x89, hf88, h⟩ := bno h
      rcases bft ((!x89)) with hb90 | hb90
      ·replace h := Qar hb90 h
       refine wx tbk [(3, rp [(.tmp 45, (Qlt p1)), (.tmp 46, I y80)] (.dptr (Qay (x84)) 0)), (5, rp [fu 84, (.tmp 48, (Qjk x84))] (B x89)), (7, rp [(.tmp 50, (B ((!x89))))] (B true))] ⟨aid rfl Try.underlying103 ti96 rfl rfl hi86 (mgt Qay hj87) rfl, apc (first := []) (cap := []) (vs := [(Qjk x84)]) rfl Qnc (Qd8 N x84 _ hf88) rfl rfl (nlc (NLt.agg _ (nlc nll (nlc nll nl0))) nl0) nll rfl, asb hb90 (amv rfl), trivial⟩ ?_
       refine Qbs (by kernel_rfl) ?_
       refine wx tbk [] trivial ?_
       refine wmr (mto (n := 174) (l' := [(4, Qfv), (5, I 2)]) (own' := []) [(4, nilS), (5, I 2)] [] [] hφ0 (pc (.nil _) (pc rwl pn)) qn) ?_
       refine Qai ?_
       refine Qaq ?_
       refine Qag ?_
       refine Qag ?_
       refine Qaq ?_
       refine Qag ?_
       obtain rfl := osi h
       exact ⟨_, Mor.rfl, Qc2 (vs := [Qfv, I 2]) ⟨rot (by kernel_rfl), rot (by kernel_rfl), trivial⟩ rfl (NLt.tup _ (nlc (nld Qbe _) (nlc nll nl0))) (by kernel_rfl) Qbu⟩
      ·replace h := Qas hb90 h
       obtain ⟨x91, hg92, h⟩ := bno h
       obtain ⟨hi93, hj94⟩ := gsm hg92
       rcases bft (x91) with hb95 | hb95
       ·replace h := Qar hb95 h
        obtain ⟨x96, hg97, h⟩ := bno h
        obtain ⟨hi98, hj99⟩ := gsm hg97
        obtain ⟨x101, hf100, h⟩ := bno h
        refine wx tbk [(3, rp [(.tmp 45, (Qlt p1)), (.tmp 46, I y80)] (.dptr (Qay (x84)) 0)), (5, rp [fu 84, (.tmp 48, (Qjk x84))] (B x89)), (7, rp [(.tmp 50, (B ((!x89))))] (B false)), (11, rp [(.tmp 51, B false), (.tmp 53, (Qp7 p1)), (.tmp 54, I y80)] (.dptr (Qan (x91)) 0)), (13, rp [(.tmp 51, B false), (.tmp 56, B x91)] (B true)), (17, rp [(.tmp 57, B true), (.tmp 59, (Qp8 p1)), (.tmp 60, I y80)] (.dptr (Qay (x96)) 0)), (19, rp [(.tmp 57, B true), fu 84, (.tmp 62, (.agg [I x96.Reading, I x96.Off]))] (B x101))] ⟨aid rfl Try.underlying103 ti96 rfl rfl hi86 (mgt Qay hj87) rfl, apc (first := []) (cap := []) (vs := [(Qjk x84)]) rfl Qnc (Qd8 N x84 _ hf88) rfl rfl (nlc (NLt.agg _ (nlc nll (nlc nll nl0))) nl0) nll rfl, asb hb90 (amv rfl), ag_ (aid rfl Try.underlying26 ti4 rfl rfl hi93 (mgt Qan hj94) rfl), asb hb95 (ag_ (amv rfl)), ag_ (aid rfl Try.underlying103 ti96 rfl rfl hi98 (mgt Qay hj99) rfl), ag_ (apc (first := []) (cap := []) (vs := [(.agg [I x96.Reading, I x96.Off])]) rfl Qnc (Qd8 N x96 _ hf100) rfl rfl (nlc (NLt.agg _ (nlc nll (nlc nll nl0))) nl0) nll rfl), trivial⟩ ?_
        rcases bft ((!x101)) with hc102 | hc102
        ·replace h := Qar hc102 h
         refine wft hc102 (by kernel_rfl) ?_
         refine wx tbk [] trivial ?_
         refine wmr (mto (n := 174) (l' := [(4, Qfv), (5, I 2)]) (own' := []) [(4, nilS), (5, I 2)] [] [] hφ0 (pc (.nil _) (pc rwl pn)) qn) ?_
         refine Qai ?_
         refine Qaq ?_
         refine Qag ?_
         refine Qag ?_
         refine Qaq ?_
         refine Qag ?_
         obtain rfl := osi h
         exact ⟨_, Mor.rfl, Qc2 (vs := [Qfv, I 2]) ⟨rot (by kernel_rfl), rot (by kernel_rfl), trivial⟩ rfl (NLt.tup _ (nlc (nld Qbe _) (nlc nll nl0))) (by kernel_rfl) Qbu⟩
        ·replace h := Qas hc102 h
         refine wfn hc102 (by kernel_rfl) ?_
         refine Qaf ?_
         refine bln ?_
         refine thn ?_
         refine wx1 tbk [] trivial ?_
         refine thn ?_
         exact arm (mto (n := 174) [(0, (Qeu p0)), (3, .ref 0 3 0 0), (40, (I ((p0.length : Int)))), (41, (I (w64 (y80 + 1))))] [0] [(Qe8 p1)] hφ0 (pc (.rn (.plain _ (nld Qab _))) (pc (.rn (rqr rfl)) (pc rwl (pc rwl pn)))) (qc (spb (lc (.rn (.plain _ (nld Qam _))) (lc (.rn (.plain _ (nld Qam _))) (lc (.rn (.plain _ (nld Qbv _))) ln)))) qn)) (ih (w64 (y80 + 1)) h)
       ·replace h := Qas hb95 h
        refine wx tbk [(3, rp [(.tmp 45, (Qlt p1)), (.tmp 46, I y80)] (.dptr (Qay (x84)) 0)), (5, rp [fu 84, (.tmp 48, (Qjk x84))] (B x89)), (7, rp [(.tmp 50, (B ((!x89))))] (B false)), (11, rp [(.tmp 51, B false), (.tmp 53, (Qp7 p1)), (.tmp 54, I y80)] (.dptr (Qan (x91)) 0)), (13, rp [(.tmp 51, B false), (.tmp 56, B x91)] (B false))] ⟨aid rfl Try.underlying103 ti96 rfl rfl hi86 (mgt Qay hj87) rfl, apc (first := []) (cap := []) (vs := [(Qjk x84)]) rfl Qnc (Qd8 N x84 _ hf88) rfl rfl (nlc (NLt.agg _ (nlc nll (nlc nll nl0))) nl0) nll rfl, asb hb90 (amv rfl), ag_ (aid rfl Try.underlying26 ti4 rfl rfl hi93 (mgt Qan hj94) rfl), asb hb95 (ag_ (amv rfl)), trivial⟩ ?_
        refine Qd3 (by kernel_rfl) ?_
        refine Qaf ?_
        refine bln ?_
        refine thn ?_
        refine wx1 tbk [] trivial ?_
        refine thn ?_
        exact arm (mto (n := 174) [(0, (Qeu p0)), (3, .ref 0 3 0 0), (40, (I ((p0.length : Int)))), (41, (I (w64 (y80 + 1))))] [0] [(Qe8 p1)] hφ0 (pc (.rn (.plain _ (nld Qab _))) (pc (.rn (rqr rfl)) (pc rwl (pc rwl pn)))) (qc (spb (lc (.rn (.plain _ (nld Qam _))) (lc (.rn (.plain _ (nld Qam _))) (lc (.rn (.plain _ (nld Qbv _))) ln)))) qn)) (ih (w64 (y80 + 1)) h)
     ·replace h := Qas hc83 h
      refine wfn hc83 (by kernel_rfl) ?_
      refine Qbc ?_
      refine Qao ?_
      refine Qao ?_
      refine Qbb rfl ?_
      refine thn ?_
      exact ⟨(), h, (mto (n := 174) [(0, (Qeu p0)), (3, .ref 0 3 0 0)] [0] [(Qe8 p1)] hφ0 (pc (.rn (.plain _ (nld Qab _))) (pc (.rn (rqr rfl)) pn)) (qc (spb (lc (.rn (.plain _ (nld Qam _))) (lc (.rn (.plain _ (nld Qam _))) (lc (.rn (.plain _ (nld Qbv _))) ln)))) qn))⟩
   ·skip
    rcases bft (((p1.Use.length : Int) != (p0.length : Int))) with hb103 | hb103
    ·replace h := Qar hb103 h
     refine wx tbk [(2, rp [(.tmp 18, (Qlt p1))] (I ((p1.Use.length : Int)))), (4, rp [(.tmp 20, (Qeu p0))] (I ((p0.length : Int)))), (6, rp [(.tmp 22, (B (((p1.Use.length : Int) != (p0.length : Int)))))] (B true))] ⟨alm (c := Qay) (l := p1.Use) (aln rfl Try.underlying103 rfl), alm (c := Qac) (l := p0) (aln rfl Try.underlying31 rfl), asb hb103 (amv rfl), trivial⟩ ?_
     refine Qbs (by kernel_rfl) ?_
     refine wx tbk [] trivial ?_
     refine wmr (mto (n := 174) (l' := [(4, Qfv), (5, I 2)]) (own' := []) [(4, nilS), (5, I 2)] [] [] hφ0 (pc (.nil _) (pc rwl pn)) qn) ?_
     refine Qai ?_
     refine Qag ?_
     obtain rfl := osi h
     exact ⟨_, Mor.rfl, Qc2 (vs := [Qfv, I 2]) ⟨rot (by kernel_rfl), rot (by kernel_rfl), trivial⟩ rfl (NLt.tup _ (nlc (nld Qbe _) (nlc nll nl0))) (by kernel_rfl) Qbu⟩
    ·replace h := Qas hb103 h
     rcases bft (((p1.Flow.length : Int) != (p0.length : Int))) with hb104 | hb104
     ·replace h := Qar hb104 h
      refine wx tbk [(2, rp [(.tmp 18, (Qlt p1))] (I ((p1.Use.length : Int)))), (4, rp [(.tmp 20, (Qeu p0))] (I ((p0.length : Int)))), (6, rp [(.tmp 22, (B (((p1.Use.length : Int) != (p0.length : Int)))))] (B false)), (9, rp [(.tmp 23, B false), (.tmp 25, (Qp8 p1))] (I ((p1.Flow.length : Int)))), (11, rp [(.tmp 23, B false), (.tmp 27, (Qeu p0))] (I ((p0.length : Int)))), (14, rp [(.tmp 30, (B (((p1.Flow.length : Int) != (p0.length : Int)))))] (B true))] ⟨alm (c := Qay) (l := p1.Use) (aln rfl Try.underlying103 rfl), alm (c := Qac) (l := p0) (aln rfl Try.underlying31 rfl), asb hb103 (amv rfl), ag_ (alm (c := Qay) (l := p1.Flow) (aln rfl Try.underlying103 rfl)), ag_ (alm (c := Qac) (l := p0) (aln rfl Try.underlying31 rfl)), asb hb104 (amv rfl), trivial⟩ ?_
      refine Qbs (by kernel_rfl) ?_
      refine wx tbk [] trivial ?_
      refine wmr (mto (n := 174) (l' := [(4, Qfv), (5, I 2)]) (own' := []) [(4, nilS), (5, I 2)] [] [] hφ0 (pc (.nil _) (pc rwl pn)) qn) ?_
      refine Qai ?_
      refine Qag ?_
      obtain rfl := osi h
      exact ⟨_, Mor.rfl, Qc2 (vs := [Qfv, I 2]) ⟨rot (by kernel_rfl), rot (by kernel_rfl), trivial⟩ rfl (NLt.tup _ (nlc (nld Qbe _) (nlc nll nl0))) (by kernel_rfl) Qbu⟩
     ·replace h := Qas hb104 h
      refine wx tbk [(2, rp [(.tmp 18, (Qlt p1))] (I ((p1.Use.length : Int)))), (4, rp [(.tmp 20, (Qeu p0))] (I ((p0.length : Int)))), (6, rp [(.tmp 22, (B (((p1.Use.length : Int) != (p0.length : Int)))))] (B false)), (9, rp [(.tmp 23, B false), (.tmp 25, (Qp8 p1))] (I ((p1.Flow.length : Int)))), (11, rp [(.tmp 23, B false), (.tmp 27, (Qeu p0))] (I ((p0.length : Int)))), (14, rp [(.tmp 30, (B (((p1.Flow.length : Int) != (p0.length : Int)))))] (B false)), (17, rp [(.tmp 31, B false), (.tmp 33, (Qp7 p1))] (I ((p1.Has.length : Int)))), (19, rp [(.tmp 31, B false), (.tmp 35, (Qeu p0))] (I ((p0.length : Int))))] ⟨alm (c := Qay) (l := p1.Use) (aln rfl Try.underlying103 rfl), alm (c := Qac) (l := p0) (aln rfl Try.underlying31 rfl), asb hb103 (amv rfl), ag_ (alm (c := Qay) (l := p1.Flow) (aln rfl Try.underlying103 rfl)), ag_ (alm (c := Qac) (l := p0) (aln rfl Try.underlying31 rfl)), asb hb104 (amv rfl), ag_ (alm (c := Qan) (l := p1.Has) (aln rfl Try.underlying26 rfl)), ag_ (alm (c := Qac) (l := p0) (aln rfl Try.underlying31 rfl)), trivial⟩ ?_
      rcases bft (((p1.Has.length : Int) != (p0.length : Int))) with hc105 | hc105
      ·replace h := Qar hc105 h
       refine wft hc105 (by kernel_rfl) ?_
       refine wx tbk [] trivial ?_
       refine wmr (mto (n := 174) (l' := [(4, Qfv), (5, I 2)]) (own' := []) [(4, nilS), (5, I 2)] [] [] hφ0 (pc (.nil _) (pc rwl pn)) qn) ?_
       refine Qai ?_
       refine Qag ?_
       obtain rfl := osi h
       exact ⟨_, Mor.rfl, Qc2 (vs := [Qfv, I 2]) ⟨rot (by kernel_rfl), rot (by kernel_rfl), trivial⟩ rfl (NLt.tup _ (nlc (nld Qbe _) (nlc nll nl0))) (by kernel_rfl) Qbu⟩
      ·replace h := Qas hc105 h
       refine wfn hc105 (by kernel_rfl) ?_
       refine Qaf ?_
       refine thn ?_
       exact ⟨(), h, (mto (n := 174) [(0, (Qeu p0)), (3, .ref 0 3 0 0)] [0] [(Qe8 p1)] hφ0 (pc (.rn (.plain _ (nld Qab _))) (pc (.rn (rqr rfl)) pn)) (qc (spb (lc (.rn (.plain _ (nld Qam _))) (lc (.rn (.plain _ (nld Qam _))) (lc (.rn (.plain _ (nld Qbv _))) ln)))) qn))⟩
end Go.Proofs.Ytgdepcgbjjgnfaa
