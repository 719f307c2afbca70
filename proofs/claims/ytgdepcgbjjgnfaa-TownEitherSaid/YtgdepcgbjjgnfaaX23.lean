/-
  Functions of the program: what they compute, as plain functions, and that they do. No conditions.
-/
import Derived.Test.YtgdepcgbjjgnfaaX17
namespace Go.Proofs.Ytgdepcgbjjgnfaa
open Go.RowKit
def Qdh (N : Nat) (x12 : GHour) (k18 : (List GStair) × (List GHour) → Option (List GHour)) : Nat → Int → (List GStair) → (List GHour) → Option (List GHour)
  | 0, _, _, _ => none
  | n26 + 1, y20, y21, y22 =>
    bif (decide (y20 < (x12.Stairs.length : Int))) then
     (getI x12.Stairs y20).bind fun x28 =>
     chk (decide ((y21.length + ([x28]).length) * 16 ≤ 140737488355328)) <|
     Qdh N x12 k18 n26 (w64 (y20 + 1)) (y21 ++ ([x28])) y22
    else
     k18 (y21, y22)
def Qc1 (N : Nat) (p0 : GDay) (k3 : (List GHour) → Option (List GHour)) : Nat → Int → (List GHour) → Option (List GHour)
  | 0, _, _ => none
  | n8 + 1, y4, y5 =>
    bif (decide (y4 < (p0.Hours.length : Int))) then
     Qcl (fun y10 =>
       Qc1 N p0 k3 n8 (w64 (y4 + 1)) y10) fun k11 : (List GHour) → Option (List GHour) =>
     (getI p0.Hours y4).bind fun x12 =>
     Qcl (fun ⟨y16, y17⟩ =>
       chk (decide ((y17.length + ([(⟨x12.Use, y16⟩ : GHour)]).length) * 32 ≤ 140737488355328)) <|
       k11 (y17 ++ ([(⟨x12.Use, y16⟩ : GHour)]))) fun k18 : (List GStair) × (List GHour) → Option (List GHour) =>
     Qdh N x12 k18 N 0 ([]) y5
    else
     k3 (y5)
def Qfj (N : Nat) (p0 : GDay) : Option (List GHour) :=
  Qcl (fun y2 =>
    some y2) fun k3 : (List GHour) → Option (List GHour) =>
  Qc1 N p0 k3 N 0 ([] : List GHour)
def Qmu (p0 : GDay) : AV := .dat 2 ((p0.Hours : List GHour).map Qaf)
def Qg3 : Slot := .own 3 [[(I (0)), (I (0)), nilS]]
def Qqs (y2 : (List GHour)) : Slot := .gro 2 ((y2 : List GHour).map Qaf)
def Qh2 (p0 : GDay) : Slot := .own 3 [[(I (p0.Tank)), (I (p0.Start)), (Qmu p0)]]
def Qrz (p0 : GDay) : Slot := .own 3 [[(I (p0.Tank)), (I (p0.Start)), (.gro 3 62 2 (([] : List GHour).length))]]
def Qry : Slot := .gro 2 ((([] : List GHour) : List GHour).map Qaf)
def Qny (p0 : GDay) (y5 : (List GHour)) : Slot := .own 3 [[(I (p0.Tank)), (I (p0.Start)), (.gro 3 62 2 (y5.length))]]
def Qk6 (y5 : (List GHour)) : Slot := .gro 2 ((y5 : List GHour).map Qaf)
def Qrx (y16 : (List GStair)) : AV := .acc 5 64 2 ((y16 : List GStair).map Qak)
def Qxj : AV := .acc 5 64 2 ((([]) : List GStair).map Qak)
def Qxk : AV := .acc 5 64 2 (([] : List GStair).map Qak)
def Qnw (p0 : GDay) (y22 : (List GHour)) : Slot := .own 3 [[(I (p0.Tank)), (I (p0.Start)), (.gro 4 62 2 (y22.length))]]
def Qnx (y21 : (List GStair)) : AV := .acc 5 64 2 ((y21 : List GStair).map Qak)
def Qnv (x28 : GStair) : AV := .agg [(I (x28.Amount)), (I (x28.Price))]
set_option maxRecDepth 100000 in
set_option maxHeartbeats 4000000 in
theorem Qim (N : Nat) (p0 : GDay) (r : (List GHour)) (h : Qfj N p0 = some r) : Spec Try.prog 31 [(.agg [(I (p0.Tank)), (I (p0.Start)), (Qmu p0)])] [] (.agg [(I (p0.Tank)), (I (p0.Start)), (.gro 1 62 2 (r.length))]) [(.own 3 [[(I (p0.Tank)), (I (p0.Start)), (.gro 1 62 2 (r.length))]]), (.gro 2 ((r : List GHour).map Qaf))] := by
  refine Qal Try.func31 rfl 2 (nle rfl) (fun X φ0 w0 hφ0 => ?_)
  unfold Qfj at h
  refine Qc0 ?_
  refine wx tbk [] trivial ?_
  refine wx tbk [(4, rp [(.tmp 9, I p0.Tank), (.tmp 11, I p0.Start)] (.agg [I p0.Tank, I p0.Start, nilS]))] ⟨Qbb (vs := [I p0.Tank, I p0.Start]) rfl ts47 tz47 rfl (by rfl) rfl, trivial⟩ ?_
  obtain ⟨k3, hk_k3, h⟩ := jko h
  refine wjn (τ := (List GHour)) (fun t => k3 t = some r) (fun y2 => ⟨mk 64 [(2, .ref 0 3 0 0), (3, .ref 1 3 0 0)], [Qg3, (.own 3 [[I p0.Tank, I p0.Start, (.gro 2 62 2 (y2.length))]]), (Qqs y2)]⟩) (fun y2 h => ?_) ?_
  ·subst hk_k3
   refine wx tbk [] trivial ?_
   refine wmr (mto (n := 64) (l' := [(2, .ref 0 3 0 0)]) (own' := [(.own 3 [[I p0.Tank, I p0.Start, (.gro 1 62 2 (y2.length))]]), (Qqs y2)]) [(2, .ref 0 3 0 0)] [0, 2] [(.own 3 [[I p0.Tank, I p0.Start, (.gro 2 62 2 (y2.length))]]), (Qqs y2)] hφ0 (pc (.rn (rqr rfl)) pn) (qc (spb (lc rwl (lc rwl (lc (.rn (Qgx rfl)) ln)))) (qc (Qfp Qac) qn))) ?_
   refine Qai ?_
   obtain rfl := osi h
   exact ⟨_, Mor.rfl, Qdc (vs := [(.agg [I p0.Tank, I p0.Start, (.gro 1 62 2 (y2.length))])]) ⟨Qfb (n := 0) (m := 3) (j := 0) (i := 0) (xs := [[I p0.Tank, I p0.Start, (.gro 1 62 2 (y2.length))]]) (by kernel_rfl) (by kernel_rfl) ti47 (by decide) rfl (nle rfl) rfl, trivial⟩ rfl (NLt.agg _ (nlc (NLt.of0 nll) (nlc (NLt.of0 nll) (nlc (NLt.gro _ _ _ _ (by decide)) nl0)))) (by kernel_rfl) (Qao (Qbr (nlc (NLt.of0 nll) (nlc (NLt.of0 nll) (nlc (NLt.gro _ _ _ _ (by decide)) nl0)))) (Qao (Qxy Qac _) Qca))⟩
  ·skip
   refine wx tbk [] trivial ?_
   refine Qag ?_
   refine wmr (Mor.trans (Qvo (n := 3) (ty := 62) (m := 2) (q := 2) (mq := 3) (c := [I p0.Tank, I p0.Start, nilS]) 2 (by kernel_rfl) (by kernel_rfl) (by kernel_rfl) (by decide)) (mto (n := 64) (l' := [(1, .ref 0 3 0 0), (2, .ref 1 3 0 0), (3, .ref 2 3 0 0), (4, I 0)]) (own' := [(Qh2 p0), Qg3, (Qrz p0), Qry]) [(1, .ref 0 3 0 0), (2, .ref 1 3 0 0), (3, .ref 2 3 0 0), (4, I 0)] [0, 1, 2, 3] [(Qh2 p0), Qg3, (Qrz p0), Qry] hφ0 (pc (.rn (rqr rfl)) (pc (.rn (rqr rfl)) (pc (.rn (rqr rfl)) (pc rwl pn)))) (qc (spb (lc rwl (lc rwl (lc (.rn (.plain _ (nld Qac _))) ln)))) (qc (spb (lc rwl (lc rwl (lc rwl ln)))) (qc (spb (lc rwl (lc rwl (lc (.rn (Qgx rfl)) ln)))) (qc (Qfp Qac) qn)))))) ?_
   refine Qcb (τ := Int × (List GHour)) (fun n t => Qc1 N p0 k3 n t.1 t.2 = some r) (fun ⟨y4, y5⟩ => ⟨mk 64 [(1, .ref 0 3 0 0), (2, .ref 1 3 0 0), (3, .ref 2 3 0 0), (4, I y4)], [(Qh2 p0), Qg3, (Qny p0 y5), (Qk6 y5)]⟩) (fun t h => by rw [Qc1] at h; cases h) (fun n8 ih t h => ?_) N (0, ([] : List GHour)) h
   obtain ⟨y4, y5⟩ := t
   rw [Qc1] at h
   skip
   refine wsq ?_
   refine wx tbk [(3, rp [(.tmp 15, (Qmu p0))] (I ((p0.Hours.length : Int))))] ⟨alm (c := Qaf) (l := p0.Hours) (aln rfl Try.underlying39 rfl), trivial⟩ ?_
   rcases bft ((decide (y4 < (p0.Hours.length : Int)))) with hc9 | hc9
   ·replace h := Qaw hc9 h
    refine wft hc9 (by kernel_rfl) ?_
    refine Qah ?_
    refine thn ?_
    obtain ⟨k11, hk_k11, h⟩ := jko h
    refine wjn (τ := (List GHour)) (fun t => k11 t = some r) (fun y10 => ⟨mk 64 [(1, .ref 0 3 0 0), (2, .ref 1 3 0 0), (3, .ref 2 3 0 0), (4, I y4)], [(Qh2 p0), Qg3, (.own 3 [[I p0.Tank, I p0.Start, (.gro 3 62 2 (y10.length))]]), (.gro 2 ((y10 : List GHour).map Qaf))]⟩) (fun y10 h => ?_) ?_
    ·subst hk_k11
     refine wx1 tbk [] trivial ?_
     refine thn ?_
     exact arm (mto (n := 64) [(1, .ref 0 3 0 0), (2, .ref 1 3 0 0), (3, .ref 2 3 0 0), (4, (I (w64 (y4 + 1))))] [0, 1, 2, 3] [(Qh2 p0), Qg3, (.own 3 [[I p0.Tank, I p0.Start, (.gro 3 62 2 (y10.length))]]), (.gro 2 ((y10 : List GHour).map Qaf))] hφ0 (pc (.rn (rqr rfl)) (pc (.rn (rqr rfl)) (pc (.rn (rqr rfl)) (pc rwl pn)))) (qc (spb (lc rwl (lc rwl (lc (.rn (.plain _ (nld Qac _))) ln)))) (qc (spb (lc rwl (lc rwl (lc rwl ln)))) (qc (spb (lc rwl (lc rwl (lc (.rn (Qgx rfl)) ln)))) (qc (Qfp Qac) qn))))) (ih (w64 (y4 + 1), y10) h)
    ·skip
     refine Qag ?_
     obtain ⟨x12, hg13, h⟩ := bno h
     obtain ⟨hi14, hj15⟩ := gsm hg13
     refine wx tbk [(3, rp [(.tmp 21, (Qmu p0)), (.tmp 22, I y4)] (.dptr (Qaf (x12)) 0)), (6, rp [(.tmp 25, I x12.Use)] (.agg [I x12.Use, nilS]))] ⟨aid rfl Try.underlying39 Qn8 rfl rfl hi14 (mgt Qaf hj15) rfl, Qbb (vs := [I x12.Use]) rfl ts62 tz62 rfl (by rfl) rfl, trivial⟩ ?_
     obtain ⟨k18, hk_k18, h⟩ := jko h
     refine wjn (τ := (List GStair) × (List GHour)) (fun t => k18 t = some r) (fun ⟨y16, y17⟩ => ⟨mk 64 [(1, .ref 0 3 0 0), (2, .ref 1 3 0 0), (3, .ref 2 3 0 0), (4, I y4), (5, .ref 3 2 0 0)], [(Qh2 p0), Qg3, (.own 3 [[I p0.Tank, I p0.Start, (.gro 4 62 2 (y17.length))]]), (.own 2 [[I x12.Use, (Qrx y16)]]), (.gro 2 ((y17 : List GHour).map Qaf)), .tok]⟩) (fun t h => ?_) ?_
     ·subst hk_k18
      obtain ⟨y16, y17⟩ := t
      obtain ⟨ha19, h⟩ := cko h
      refine wx1 tbk [(3, rp [(.tmp 59, (.agg [I x12.Use, (Qrx y16)]))] (.dat 2 (([(⟨x12.Use, y16⟩ : GHour)] : List GHour).map Qaf))), (4, ⟨[(.tmp 58, (.gro 4 62 2 (y17.length))), (.tmp 60, (.dat 2 (([(⟨x12.Use, y16⟩ : GHour)] : List GHour).map Qaf)))], [(4, (.gro 2 ((y17 : List GHour).map Qaf))), (6, .unused)], (.gro 6 62 2 ((y17 ++ ([(⟨x12.Use, y16⟩ : GHour)])).length)), [(4, .dead), (6, (.gro 2 ((y17 ++ ([(⟨x12.Use, y16⟩ : GHour)]) : List GHour).map Qaf)))], false⟩)] ?_ ?_
      ·exact ⟨awk (rd' := [(.tmp 59, (.agg [I x12.Use, (.dat 2 ((y16 : List GStair).map Qak))]))]) ⟨rfl, (Less.agg ⟨lrf, Less.acc, trivial⟩), trivial⟩ (Qa6 (vs := [(.agg [I x12.Use, (.dat 2 ((y16 : List GStair).map Qak))])]) rfl Try.underlying45 ti62 tz62 rfl (by decide) rfl (by decide) (by rfl) (by rfl) (by rfl) rfl), Qmi (c := Qaf) (a := y17) (b := [(⟨x12.Use, y16⟩ : GHour)]) rfl Try.underlying45 te62 rfl (Qcw rfl) (by rfl) ha19 (by decide), trivial⟩
      refine bln ?_
      refine thn ?_
      exact ⟨(y17 ++ ([(⟨x12.Use, y16⟩ : GHour)])), h, (mto (n := 64) [(1, .ref 0 3 0 0), (2, .ref 1 3 0 0), (3, .ref 2 3 0 0), (4, I y4)] [0, 1, 2, 6] [(Qh2 p0), Qg3, (.own 3 [[I p0.Tank, I p0.Start, (.gro 6 62 2 ((y17 ++ ([(⟨x12.Use, y16⟩ : GHour)])).length))]]), (.gro 2 ((y17 ++ ([(⟨x12.Use, y16⟩ : GHour)]) : List GHour).map Qaf))] hφ0 (pc (.rn (rqr rfl)) (pc (.rn (rqr rfl)) (pc (.rn (rqr rfl)) (pc rwl pn)))) (qc (spb (lc rwl (lc rwl (lc (.rn (.plain _ (nld Qac _))) ln)))) (qc (spb (lc rwl (lc rwl (lc rwl ln)))) (qc (spb (lc rwl (lc rwl (lc (.rn (Qgx rfl)) ln)))) (qc (Qfp Qac) qn)))))⟩
     ·skip
      refine wx tbk [] trivial ?_
      refine Qag ?_
      refine wmr (Mor.trans (Qoj (n := 5) (ty := 64) (m := 2) (q := 4) (mq := 2) (c := [I x12.Use, nilS]) 1 (by kernel_rfl) (by kernel_rfl) (by kernel_rfl) (by decide)) (mto (n := 64) (l' := [(1, .ref 0 3 0 0), (2, .ref 1 3 0 0), (3, .ref 2 3 0 0), (4, I y4), (5, .ref 3 2 0 0), (6, I 0)]) (own' := [(Qh2 p0), Qg3, (.own 3 [[I p0.Tank, I p0.Start, (.gro 4 62 2 (y5.length))]]), (.own 2 [[I x12.Use, Qxj]]), (Qk6 y5), .tok]) [(1, .ref 0 3 0 0), (2, .ref 1 3 0 0), (3, .ref 2 3 0 0), (4, I y4), (5, .ref 4 2 0 0), (6, I 0)] [0, 1, 2, 4, 3, 5] [(Qh2 p0), Qg3, (Qny p0 y5), (.own 2 [[I x12.Use, Qxk]]), (Qk6 y5), .tok] hφ0 (pc (.rn (rqr rfl)) (pc (.rn (rqr rfl)) (pc (.rn (rqr rfl)) (pc rwl (pc (.rn (rqr rfl)) (pc rwl pn)))))) (qc (spb (lc rwl (lc rwl (lc (.rn (.plain _ (nld Qac _))) ln)))) (qc (spb (lc rwl (lc rwl (lc rwl ln)))) (qc (spb (lc rwl (lc rwl (lc (.rn (Qgx rfl)) ln)))) (qc (spb (lc rwl (lc (.rn (Qf1 rfl (Qer Qa5 _))) ln))) (qc (Qfp Qac) (qc .tok qn)))))))) ?_
      refine Qcb (τ := Int × (List GStair) × (List GHour)) (fun n t => Qdh N x12 k18 n t.1 t.2.1 t.2.2 = some r) (fun ⟨y20, y21, y22⟩ => ⟨mk 64 [(1, .ref 0 3 0 0), (2, .ref 1 3 0 0), (3, .ref 2 3 0 0), (4, I y4), (5, .ref 3 2 0 0), (6, I y20)], [(Qh2 p0), Qg3, (Qnw p0 y22), (.own 2 [[I x12.Use, (Qnx y21)]]), (.gro 2 ((y22 : List GHour).map Qaf)), .tok]⟩) (fun t h => by rw [Qdh] at h; cases h) (fun n26 ih t h => ?_) N (0, [], y5) h
      obtain ⟨y20, y21, y22⟩ := t
      rw [Qdh] at h
      skip
      refine wsq ?_
      refine wx tbk [(4, rp [(.tmp 29, (Qmu p0)), (.tmp 30, I y4)] (.dptr (Qaf (x12)) 0)), (7, rp [(.tmp 33, (.dat 2 ((x12.Stairs : List GStair).map Qak)))] (I ((x12.Stairs.length : Int))))] ⟨aid rfl Try.underlying39 Qn8 rfl rfl hi14 (mgt Qaf hj15) rfl, alm (c := Qak) (l := x12.Stairs) (aln rfl Try.underlying145 rfl), trivial⟩ ?_
      rcases bft ((decide (y20 < (x12.Stairs.length : Int)))) with hc27 | hc27
      ·replace h := Qaw hc27 h
       refine wft hc27 (by kernel_rfl) ?_
       refine Qah ?_
       refine thn ?_
       refine wsq ?_
       refine Qag ?_
       obtain ⟨x28, hg29, h⟩ := bno h
       obtain ⟨hi30, hj31⟩ := gsm hg29
       refine wx tbk [(3, rp [(.tmp 39, (Qmu p0)), (.tmp 40, I y4)] (.dptr (Qaf (x12)) 0)), (7, rp [(.tmp 43, (.dat 2 ((x12.Stairs : List GStair).map Qak))), (.tmp 44, I y20)] (.dptr (Qak (x28)) 0))] ⟨aid rfl Try.underlying39 Qn8 rfl rfl hi14 (mgt Qaf hj15) rfl, aid rfl Try.underlying145 Qu6 rfl rfl hi30 (mgt Qak hj31) rfl, trivial⟩ ?_
       obtain ⟨ha32, h⟩ := cko h
       refine wx1 tbk [(6, rp [(.tmp 50, I x28.Amount), (.tmp 52, I x28.Price)] (Qnv x28)), (7, rp [(.tmp 53, (Qnv x28))] (.dat 2 (([x28] : List GStair).map Qak))), (8, ⟨[(.tmp 48, (Qnx y21)), (.tmp 54, (.dat 2 (([x28] : List GStair).map Qak)))], [(5, .tok), (7, .unused)], (.acc 7 64 2 ((y21 ++ ([x28]) : List GStair).map Qak)), [(5, .dead), (7, .tok)], false⟩)] ⟨Qbb (vs := [I x28.Amount, I x28.Price]) rfl ts64 tz64 rfl (by rfl) rfl, Qa6 (vs := [(Qnv x28)]) rfl Try.underlying60 ti64 tz64 rfl (by decide) rfl (by decide) (by rfl) (by rfl) (by rfl) rfl, Qmj rfl Try.underlying60 te64 (Base.acc _ _) rfl rfl (by rfl) (Qrf Qak ha32) (Qre Qak ha32 (by decide)) (Qrd Qak) rfl rfl, trivial⟩ ?_
       refine bln ?_
       refine thn ?_
       refine wx1 tbk [] trivial ?_
       refine thn ?_
       exact arm (mto (n := 64) [(1, .ref 0 3 0 0), (2, .ref 1 3 0 0), (3, .ref 2 3 0 0), (4, I y4), (5, .ref 3 2 0 0), (6, (I (w64 (y20 + 1))))] [0, 1, 2, 3, 4, 7] [(Qh2 p0), Qg3, (Qnw p0 y22), (.own 2 [[I x12.Use, (.acc 7 64 2 ((y21 ++ ([x28]) : List GStair).map Qak))]]), (.gro 2 ((y22 : List GHour).map Qaf)), .tok] hφ0 (pc (.rn (rqr rfl)) (pc (.rn (rqr rfl)) (pc (.rn (rqr rfl)) (pc rwl (pc (.rn (rqr rfl)) (pc rwl pn)))))) (qc (spb (lc rwl (lc rwl (lc (.rn (.plain _ (nld Qac _))) ln)))) (qc (spb (lc rwl (lc rwl (lc rwl ln)))) (qc (spb (lc rwl (lc rwl (lc (.rn (Qgx rfl)) ln)))) (qc (spb (lc rwl (lc (.rn (Qf1 rfl (Qer Qa5 _))) ln))) (qc (Qfp Qac) (qc .tok qn))))))) (ih (w64 (y20 + 1), y21 ++ ([x28]), y22) h)
      ·replace h := Qax hc27 h
       refine wfn hc27 (by kernel_rfl) ?_
       refine Qa4 ?_
       refine Qan ?_
       refine Qan ?_
       refine Qa3 rfl ?_
       refine thn ?_
       exact ⟨(y21, y22), h, (mto (n := 64) [(1, .ref 0 3 0 0), (2, .ref 1 3 0 0), (3, .ref 2 3 0 0), (4, I y4), (5, .ref 3 2 0 0)] [0, 1, 2, 3, 4, 5] [(Qh2 p0), Qg3, (Qnw p0 y22), (.own 2 [[I x12.Use, (Qnx y21)]]), (.gro 2 ((y22 : List GHour).map Qaf)), .tok] hφ0 (pc (.rn (rqr rfl)) (pc (.rn (rqr rfl)) (pc (.rn (rqr rfl)) (pc rwl (pc (.rn (rqr rfl)) pn))))) (qc (spb (lc rwl (lc rwl (lc (.rn (.plain _ (nld Qac _))) ln)))) (qc (spb (lc rwl (lc rwl (lc rwl ln)))) (qc (spb (lc rwl (lc rwl (lc (.rn (Qgx rfl)) ln)))) (qc (spb (lc rwl (lc (.rn (Qf1 rfl (Qer Qa5 _))) ln))) (qc (Qfp Qac) (qc .tok qn)))))))⟩
   ·replace h := Qax hc9 h
    refine wfn hc9 (by kernel_rfl) ?_
    refine Qa4 ?_
    refine Qan ?_
    refine Qan ?_
    refine Qa3 rfl ?_
    refine thn ?_
    exact ⟨(y5), h, (mto (n := 64) [(2, .ref 1 3 0 0), (3, .ref 2 3 0 0)] [1, 2, 3] [Qg3, (Qny p0 y5), (Qk6 y5)] hφ0 (pc (.rn (rqr rfl)) (pc (.rn (rqr rfl)) pn)) (qc (spb (lc rwl (lc rwl (lc rwl ln)))) (qc (spb (lc rwl (lc rwl (lc (.rn (Qgx rfl)) ln)))) (qc (Qfp Qac) qn))))⟩
def Qfc (N : Nat) (p0 : GDay) : Option Bool :=
  Qcl (fun _ =>
    (Qgp N p0).bind fun x3 =>
    (Qbz N x3).bind fun x5 =>
    (Qgp N p0).bind fun x7 =>
    (Qgw N x7).bind fun x9 =>
    bif (x5.2.2.2 == 0) then
     bif (x9.2.2 == 7) then
      (Qe9 2000 ).bind fun x13 =>
      some x13
     else
      some false
    else
     Qcl (fun _ =>
       Qcl (fun _ =>
         (Qfj N p0).bind fun x17 =>
         chk (!x17.isEmpty) <|
         chk (decide ((0 : Int) ≤ 0) && decide (0 ≤ w64 (x9.1 + 1)) && decide (w64 (x9.1 + 1) ≤ ((x17.length : Nat) : Int))) <|
         chk (decide ((0 : Int) < ((x17.length : Nat) : Int))) <|
         chk (decide (0 ≤ x9.1) && decide (x9.1.toNat < (w64 (x9.1 + 1)).toNat - (0 : Int).toNat)) <|
         (x17[x9.1.toNat]?).bind fun x22 =>
         bif (decide (x9.2.1 > x22.Use)) then
          some false
         else
          chk (decide (0 ≤ x9.1) && decide (x9.1.toNat < (w64 (x9.1 + 1)).toNat - (0 : Int).toNat)) <|
          (x17[x9.1.toNat]?).bind fun x26 =>
          chk (decide (0 ≤ x9.1) && decide (x9.1.toNat < (w64 (x9.1 + 1)).toNat - (0 : Int).toNat)) <|
          (x17[x9.1.toNat]?).bind fun x29 =>
          chk (decide ((w64 (x9.1 + 1)).toNat - (0 : Int).toNat ≤ (x17.set x9.1.toNat (⟨w64 (x26.Use - x9.2.1), x29.Stairs⟩ : GHour)).length)) <|
          (Qbz N (⟨p0.Tank, p0.Start, (x17.set x9.1.toNat (⟨w64 (x26.Use - x9.2.1), x29.Stairs⟩ : GHour)).take ((w64 (x9.1 + 1)).toNat - (0 : Int).toNat)⟩ : GDay)).bind fun x33 =>
          chk (decide (0 ≤ x9.1) && decide (x9.1.toNat < (w64 (x9.1 + 1)).toNat - (0 : Int).toNat)) <|
          ((x17.set x9.1.toNat (⟨w64 (x26.Use - x9.2.1), x29.Stairs⟩ : GHour))[x9.1.toNat]?).bind fun x35 =>
          chk (decide (0 ≤ x9.1) && decide (x9.1.toNat < (w64 (x9.1 + 1)).toNat - (0 : Int).toNat)) <|
          ((x17.set x9.1.toNat (⟨w64 (x26.Use - x9.2.1), x29.Stairs⟩ : GHour))[x9.1.toNat]?).bind fun x38 =>
          chk (decide ((w64 (x9.1 + 1)).toNat - (0 : Int).toNat ≤ ((x17.set x9.1.toNat (⟨w64 (x26.Use - x9.2.1), x29.Stairs⟩ : GHour)).set x9.1.toNat (⟨w64 (x35.Use + 1), x38.Stairs⟩ : GHour)).length)) <|
          (Qbz N (⟨p0.Tank, p0.Start, ((x17.set x9.1.toNat (⟨w64 (x26.Use - x9.2.1), x29.Stairs⟩ : GHour)).set x9.1.toNat (⟨w64 (x35.Use + 1), x38.Stairs⟩ : GHour)).take ((w64 (x9.1 + 1)).toNat - (0 : Int).toNat)⟩ : GDay)).bind fun x42 =>
          bif (x33.2.2.2 == 0) then
           bif (x42.2.2.2 == 7) then
            (Qe9 2000 ).bind fun x46 =>
            some x46
           else
            some false
          else
           some false) fun k15 : Unit → Option Bool =>
       bif (decide (x9.1 > 0)) then
        (Qfj N p0).bind fun x49 =>
        chk (!x49.isEmpty) <|
        chk (decide ((0 : Int) ≤ 0) && decide (0 ≤ x9.1) && decide (x9.1 ≤ ((x49.length : Nat) : Int))) <|
        chk (decide ((0 : Int) < ((x49.length : Nat) : Int))) <|
        chk (decide (x9.1.toNat - (0 : Int).toNat ≤ x49.length)) <|
        (Qbz N (⟨p0.Tank, p0.Start, x49.take (x9.1.toNat - (0 : Int).toNat)⟩ : GDay)).bind fun x55 =>
        bif (x55.2.2.2 != 0) then
         some false
        else
         k15 ()
       else
        k15 ()) fun k14 : Unit → Option Bool =>
     bif (x5.2.2.2 != 7) then
      some false
     else
      bif (x9.2.2 != 0) then
       some false
      else
       bif (decide (x9.1 < 0)) then
        some false
       else
        bif (decide (x9.1 ≥ (p0.Hours.length : Int))) then
         some false
        else
         bif (decide (x9.2.1 < 1)) then
          some false
         else
          k14 ()) fun k1 : Unit → Option Bool =>
  (Qhm N p0).bind fun x63 =>
  bif (!x63) then
   (Qe9 2000 ).bind fun x66 =>
   some x66
  else
   (Qe8 N p0).bind fun x68 =>
   bif (!x68) then
    (Qe9 2000 ).bind fun x71 =>
    some x71
   else
    k1 ()
def Qr0 (p0 : GDay) : AV := .dat 2 ((p0.Hours : List GHour).map Qaf)
def Qlk (p0 : GDay) : Slot := .own 3 [[(I (p0.Tank)), (I (p0.Start)), (Qr0 p0)]]
def Qg4 (p0 : GDay) : AV := .agg [(I (p0.Tank)), (I (p0.Start)), (Qr0 p0)]
def Qux (x3 : GDay) : AV := .agg [(I (x3.Tank)), (I (x3.Start)), (.dat 2 ((x3.Hours : List GHour).map Qaf))]
def Quw (x7 : GDay) : AV := .agg [(I (x7.Tank)), (I (x7.Start)), (.dat 2 ((x7.Hours : List GHour).map Qaf))]
def Qgf (x17 : (List GHour)) : Slot := .gro 2 ((x17 : List GHour).map Qaf)
def Qhe (x17 : (List GHour)) : Slot := .own 2 ((x17 : List GHour).map Qaf)
def Qkh (x17 : (List GHour)) (x9 : (Int × Int × Int)) (x26 : GHour) (x29 : GHour) : Slot := .own 2 ((x17.set x9.1.toNat (⟨w64 (x26.Use - x9.2.1), x29.Stairs⟩ : GHour) : List GHour).map Qaf)
def Qu0 (p0 : GDay) (x9 : (Int × Int × Int)) : AV := .agg [(I (p0.Tank)), (I (p0.Start)), (.own 2 2 (0) ((w64 (x9.1 + 1)).toNat - (0 : Int).toNat))]
def Quz (x17 : (List GHour)) (x9 : (Int × Int × Int)) (x26 : GHour) (x29 : GHour) : AV := .dat 2 (((x17.set x9.1.toNat (⟨w64 (x26.Use - x9.2.1), x29.Stairs⟩ : GHour)).take ((w64 (x9.1 + 1)).toNat - (0 : Int).toNat) : List GHour).map Qaf)
def Quy (x17 : (List GHour)) (x9 : (Int × Int × Int)) (x26 : GHour) (x29 : GHour) (x35 : GHour) (x38 : GHour) : AV := .dat 2 ((((x17.set x9.1.toNat (⟨w64 (x26.Use - x9.2.1), x29.Stairs⟩ : GHour)).set x9.1.toNat (⟨w64 (x35.Use + 1), x38.Stairs⟩ : GHour)).take ((w64 (x9.1 + 1)).toNat - (0 : Int).toNat) : List GHour).map Qaf)
def Qnz (x49 : (List GHour)) : Slot := .gro 2 ((x49 : List GHour).map Qaf)
set_option maxRecDepth 100000 in
set_option maxHeartbeats 4000000 in
theorem Qi5 (N : Nat) (p0 : GDay) (r : Bool) (h : Qfc N p0 = some r) : Spec Try.prog 9 [(.agg (Qio p0))] [] (B r) [] := by
  refine Qal Try.func9 rfl 0 (nle rfl) (fun X φ0 w0 hφ0 => ?_)
  unfold Qfc at h
  refine wx tbk [] trivial ?_
  obtain ⟨k1, hk_k1, h⟩ := jko h
  refine wjn (τ := Unit) (fun t => k1 t = some r) (fun _ => ⟨mk 144 [(1, .ref 0 3 0 0)], [(Qlk p0)]⟩) (fun t h => ?_) ?_
  ·subst hk_k1
   obtain ⟨x3, hf2, h⟩ := bno h
   obtain ⟨x5, hf4, h⟩ := bno h
   refine wx tbk [(1, rp [fu 31, (.tmp 26, (Qg4 p0))] (Qux x3)), (2, rp [fu 30, (.tmp 27, (Qux x3))] (.tup [(.dat 1 ((x5.1 : List Int).map Qad)), (.dat 1 ((x5.2.1 : List Int).map Qad)), I x5.2.2.1, I x5.2.2.2]))] ⟨apc (first := []) (cap := []) (vs := [(Qg4 p0)]) rfl Qor (Qj3 N p0 _ hf2) rfl rfl (nlc (NLt.agg _ (nlc nll (nlc nll (nlc (nld Qac _) nl0)))) nl0) (NLt.agg _ (nlc nll (nlc nll (nlc (nld Qac _) nl0)))) rfl, apc (first := []) (cap := []) (vs := [(Qux x3)]) rfl Ql7 (Qek N x3 _ hf4) rfl rfl (nlc (NLt.agg _ (nlc nll (nlc nll (nlc (nld Qac _) nl0)))) nl0) (NLt.tup _ (nlc (nld Qaa _) (nlc (nld Qaa _) (nlc nll (nlc nll nl0))))) rfl, trivial⟩ ?_
   obtain ⟨x7, hf6, h⟩ := bno h
   obtain ⟨x9, hf8, h⟩ := bno h
   refine wx tbk [(1, rp [fu 31, (.tmp 34, (Qg4 p0))] (Quw x7)), (2, rp [fu 40, (.tmp 35, (Quw x7))] (.tup [I x9.1, I x9.2.1, I x9.2.2]))] ⟨apc (first := []) (cap := []) (vs := [(Qg4 p0)]) rfl Qor (Qj3 N p0 _ hf6) rfl rfl (nlc (NLt.agg _ (nlc nll (nlc nll (nlc (nld Qac _) nl0)))) nl0) (NLt.agg _ (nlc nll (nlc nll (nlc (nld Qac _) nl0)))) rfl, apc (first := []) (cap := []) (vs := [(Quw x7)]) rfl enter40 (Qmq N x7 _ hf8) rfl rfl (nlc (NLt.agg _ (nlc nll (nlc nll (nlc (nld Qac _) nl0)))) nl0) (NLt.tup _ (nlc nll (nlc nll (nlc nll nl0)))) rfl, trivial⟩ ?_
   refine wsq ?_
   refine wx tbk [] trivial ?_
   rcases bft ((x5.2.2.2 == 0)) with hc10 | hc10
   ·replace h := Qaw hc10 h
    refine wft hc10 (by kernel_rfl) ?_
    rcases bft ((x9.2.2 == 7)) with hb11 | hb11
    ·replace h := Qaw hb11 h
     obtain ⟨x13, hf12, h⟩ := bno h
     refine wx tbk [(2, rp [(.tmp 43, (B ((x9.2.2 == 7))))] (B true)), (3, rp [(.tmp 44, B true), fu 21] (B x13))] ⟨asb hb11 (amv rfl), ag_ (apc (first := []) (cap := []) (vs := []) rfl Qos (Qft 2000  _ hf12) rfl rfl nl0 nll rfl), trivial⟩ ?_
     refine Qai ?_
     refine Qaj ?_
     obtain rfl := osi h
     exact fend ⟨[B x13], ⟨rot (by kernel_rfl), trivial⟩, rfl⟩ nll
    ·replace h := Qax hb11 h
     refine wx tbk [(2, rp [(.tmp 43, (B ((x9.2.2 == 7))))] (B false))] ⟨asb hb11 (amv rfl), trivial⟩ ?_
     refine Qai ?_
     refine Qaj ?_
     obtain rfl := osi h
     exact fend ⟨[B false], ⟨rot (by kernel_rfl), trivial⟩, rfl⟩ nll
   ·replace h := Qax hc10 h
    refine wfn hc10 (by kernel_rfl) ?_
    refine Qah ?_
    refine thn ?_
    obtain ⟨k14, hk_k14, h⟩ := jko h
    refine wjn (τ := Unit) (fun t => k14 t = some r) (fun _ => ⟨mk 144 [(1, .ref 0 3 0 0), (7, I x9.1), (8, I x9.2.1)], [(Qlk p0)]⟩) (fun t h => ?_) ?_
    ·subst hk_k14
     obtain ⟨k15, hk_k15, h⟩ := jko h
     refine wjn (τ := Unit) (fun t => k15 t = some r) (fun _ => ⟨mk 144 [(1, .ref 0 3 0 0), (7, I x9.1), (8, I x9.2.1)], [(Qlk p0)]⟩) (fun t h => ?_) ?_
     ·subst hk_k15
      obtain ⟨x17, hf16, h⟩ := bno h
      refine wx tbk [(1, ⟨[fu 31, (.tmp 86, (Qg4 p0))], [(1, .unused), (2, .unused)], (.agg [I p0.Tank, I p0.Start, (.gro 2 62 2 (x17.length))]), [(1, (.own 3 [[I p0.Tank, I p0.Start, (.gro 2 62 2 (x17.length))]])), (2, (Qgf x17))], false⟩)] ⟨Qas (first := []) (cap := []) (vs := [(Qg4 p0)]) (σr := []) (σr' := [(.own 3 [[I p0.Tank, I p0.Start, (.gro 2 62 2 (x17.length))]]), (Qgf x17)]) (res' := (.agg [I p0.Tank, I p0.Start, (.gro 2 62 2 (x17.length))])) [1, 2] rfl Qor (Qim N p0 _ hf16) rfl (Qcy (rnc (.plain _ (NLt.agg _ (nlc nll (nlc nll (nlc (nld Qac _) nl0))))) rn0)) Qaq (slc (Qam (rnc (.plain _ nll) (rnc (.plain _ nll) (rnc (Qod rfl) rn0)))) (slc (Qr9 Qac) Qaq)) (Qcy (rnc (.plain _ nll) (rnc (.plain _ nll) (rnc (Qod rfl) rn0)))) rfl rfl rfl, trivial⟩ ?_
      obtain ⟨hz18, h⟩ := cko h
      obtain ⟨hs19, h⟩ := cko h
      obtain ⟨hs20, h⟩ := cko h
      refine wx tbk [(4, rb [(.tmp 89, (.gro 2 62 2 (x17.length))), (.tmp 91, (I (w64 (x9.1 + 1))))] [(2, (Qgf x17))] (.own 2 2 (0) ((w64 (x9.1 + 1)).toNat - (0 : Int).toNat)))] ⟨Qdn (bl' := [(2, (Qhe x17))]) ⟨rfl, SLess.gro (Qcw hz18), trivial⟩ (awk (rd' := [(.tmp 89, (.own 2 2 (0) (x17.length))), (.tmp 91, (I (w64 (x9.1 + 1))))]) ⟨rfl, Less.gro, rfl, lrf, trivial⟩ (Qkz (k := .i64) (k' := .i64) (lo := none) (hi := some (.tmp 91)) (l := 0) (hh := w64 (x9.1 + 1)) rfl Try.underlying45 ti62 (fun _ => rfl) (fun e => nomatch e) (Qrh hs19) (Qrg hs19) (odt (Qa1 hs19).2) (odt hs20) rfl rfl)), trivial⟩ ?_
      refine wsq ?_
      obtain ⟨hi21, h⟩ := cko h
      obtain ⟨hi21a, hi21b⟩ := Qa1 hi21
      obtain ⟨x22, hg23, h⟩ := bno h
      refine wx tbk [(4, rb [(.tmp 96, (.own 2 2 (0) ((w64 (x9.1 + 1)).toNat - (0 : Int).toNat))), (.tmp 97, I x9.1)] [(2, (Qgf x17))] (.ref 2 2 (x9.1.toNat) 0)), (5, rb [(.tmp 98, (.ref 2 2 (x9.1.toNat) 0))] [(2, (Qgf x17))] (.ref 2 2 (x9.1.toNat) 0)), (6, rb [(.tmp 99, (.ref 2 2 (x9.1.toNat) 0))] [(2, (Qgf x17))] (I x22.Use))] ⟨Qdn (bl' := [(2, (Qhe x17))]) ⟨rfl, SLess.gro (Qcw hz18), trivial⟩ (aio rfl Try.underlying45 ti62 (odt hi21a) (odt hi21b) (Nat.zero_add _)), Qdn (bl' := [(2, (Qhe x17))]) ⟨rfl, SLess.gro (Qcw hz18), trivial⟩ (afa rfl Try.underlying62 rfl rfl ti3 (by decide) rfl), Qdn (bl' := [(2, (Qhe x17))]) ⟨rfl, SLess.gro (Qcw hz18), trivial⟩ (ald rfl ti3 (by decide) (mgt Qaf hg23) (nle rfl) rfl), trivial⟩ ?_
      rcases bft ((decide (x9.2.1 > x22.Use))) with hc24 | hc24
      ·replace h := Qaw hc24 h
       refine wft hc24 (by kernel_rfl) ?_
       refine wx tbk [] trivial ?_
       refine Qai ?_
       refine Qaj ?_
       obtain rfl := osi h
       exact fend ⟨[B false], ⟨rot (by kernel_rfl), trivial⟩, rfl⟩ nll
      ·replace h := Qax hc24 h
       refine wfn hc24 (by kernel_rfl) ?_
       refine Qah ?_
       refine thn ?_
       obtain ⟨hi25, h⟩ := cko h
       obtain ⟨hi25a, hi25b⟩ := Qa1 hi25
       obtain ⟨x26, hg27, h⟩ := bno h
       obtain ⟨hi28, h⟩ := cko h
       obtain ⟨hi28a, hi28b⟩ := Qa1 hi28
       obtain ⟨x29, hg30, h⟩ := bno h
       refine wx tbk [(3, rb [(.tmp 103, (.own 2 2 (0) ((w64 (x9.1 + 1)).toNat - (0 : Int).toNat))), (.tmp 104, I x9.1)] [(2, (Qgf x17))] (.ref 2 2 (x9.1.toNat) 0)), (4, rb [(.tmp 105, (.ref 2 2 (x9.1.toNat) 0))] [(2, (Qgf x17))] (.ref 2 2 (x9.1.toNat) 0)), (5, rb [(.tmp 106, (.ref 2 2 (x9.1.toNat) 0))] [(2, (Qgf x17))] (I x26.Use)), (8, rb [(.tmp 103, (.own 2 2 (0) ((w64 (x9.1 + 1)).toNat - (0 : Int).toNat))), (.tmp 104, I x9.1)] [(2, (Qgf x17))] (.ref 2 2 (x9.1.toNat) 0)), (9, rb [(.tmp 110, (.ref 2 2 (x9.1.toNat) 0))] [(2, (Qgf x17))] (.ref 2 2 (x9.1.toNat) 0)), (10, ⟨[(.tmp 111, (.ref 2 2 (x9.1.toNat) 0)), (.tmp 109, (I (w64 (x26.Use - x9.2.1))))], [(2, (Qgf x17))], .any, [(2, (Qkh x17 x9 x26 x29))], false⟩)] ⟨Qdn (bl' := [(2, (Qhe x17))]) ⟨rfl, SLess.gro (Qcw hz18), trivial⟩ (aio rfl Try.underlying45 ti62 (odt hi25a) (odt hi25b) (Nat.zero_add _)), Qdn (bl' := [(2, (Qhe x17))]) ⟨rfl, SLess.gro (Qcw hz18), trivial⟩ (afa rfl Try.underlying62 rfl rfl ti3 (by decide) rfl), Qdn (bl' := [(2, (Qhe x17))]) ⟨rfl, SLess.gro (Qcw hz18), trivial⟩ (ald rfl ti3 (by decide) (mgt Qaf hg27) (nle rfl) rfl), Qdn (bl' := [(2, (Qhe x17))]) ⟨rfl, SLess.gro (Qcw hz18), trivial⟩ (aio rfl Try.underlying45 ti62 (odt hi28a) (odt hi28b) (Nat.zero_add _)), Qdn (bl' := [(2, (Qhe x17))]) ⟨rfl, SLess.gro (Qcw hz18), trivial⟩ (afa rfl Try.underlying62 rfl rfl ti3 (by decide) rfl), Qdn (bl' := [(2, (Qhe x17))]) ⟨rfl, SLess.gro (Qcw hz18), trivial⟩ (ast rfl ti3 (by rfl) (mgt Qaf hg30) (nle rfl) (Qd9 Qaf rfl)), trivial⟩ ?_
       obtain ⟨hz31, h⟩ := cko h
       obtain ⟨x33, hf32, h⟩ := bno h
       refine wx tbk [(1, rb [fu 30, (.tmp 113, (Qu0 p0 x9))] [(2, (Qkh x17 x9 x26 x29))] (.tup [.any, .any, I x33.2.2.1, I x33.2.2.2]))] ⟨Qfw (rd' := [fu 30, (.tmp 113, (.agg [I p0.Tank, I p0.Start, (Quz x17 x9 x26 x29)]))]) [(2, 2, (x17.set x9.1.toNat (⟨w64 (x26.Use - x9.2.1), x29.Stairs⟩ : GHour) : List GHour).map Qaf)] ⟨rfl, .same _, rfl, (Qwk ⟨(.same _), (.same _), (Qkp 0 rfl hz31), trivial⟩), trivial⟩ (by rfl) (.tup _ (Qea .any (Qea .any (Qea (.lit _) (Qea (.lit _) Ql3))))) Qls (Qjp (r := (.tup [(.dat 1 ((x33.1 : List Int).map Qad)), (.dat 1 ((x33.2.1 : List Int).map Qad)), I x33.2.2.1, I x33.2.2.2])) (Less.tup ⟨Less.any, Less.any, lrf, lrf, trivial⟩) (apc (first := []) (cap := []) (vs := [(.agg [I p0.Tank, I p0.Start, (Quz x17 x9 x26 x29)])]) rfl Ql7 (Qek N (⟨p0.Tank, p0.Start, (x17.set x9.1.toNat (⟨w64 (x26.Use - x9.2.1), x29.Stairs⟩ : GHour)).take ((w64 (x9.1 + 1)).toNat - (0 : Int).toNat)⟩ : GDay) _ hf32) rfl rfl (nlc (NLt.agg _ (nlc nll (nlc nll (nlc (nld Qac _) nl0)))) nl0) (NLt.tup _ (nlc (nld Qaa _) (nlc (nld Qaa _) (nlc nll (nlc nll nl0))))) rfl)), trivial⟩ ?_
       obtain ⟨hi34, h⟩ := cko h
       obtain ⟨hi34a, hi34b⟩ := Qa1 hi34
       obtain ⟨x35, hg36, h⟩ := bno h
       obtain ⟨hi37, h⟩ := cko h
       obtain ⟨hi37a, hi37b⟩ := Qa1 hi37
       obtain ⟨x38, hg39, h⟩ := bno h
       refine wx tbk [(3, rb [(.tmp 120, (.own 2 2 (0) ((w64 (x9.1 + 1)).toNat - (0 : Int).toNat))), (.tmp 121, I x9.1)] [(2, (Qkh x17 x9 x26 x29))] (.ref 2 2 (x9.1.toNat) 0)), (5, rb [(.tmp 123, (.ref 2 2 (x9.1.toNat) 0))] [(2, (Qkh x17 x9 x26 x29))] (I x35.Use)), (7, rb [(.tmp 120, (.own 2 2 (0) ((w64 (x9.1 + 1)).toNat - (0 : Int).toNat))), (.tmp 121, I x9.1)] [(2, (Qkh x17 x9 x26 x29))] (.ref 2 2 (x9.1.toNat) 0)), (9, ⟨[(.tmp 127, (.ref 2 2 (x9.1.toNat) 0)), (.tmp 125, (I (w64 (x35.Use + 1))))], [(2, (Qkh x17 x9 x26 x29))], .any, [(2, (.own 2 (((x17.set x9.1.toNat (⟨w64 (x26.Use - x9.2.1), x29.Stairs⟩ : GHour)).set x9.1.toNat (⟨w64 (x35.Use + 1), x38.Stairs⟩ : GHour) : List GHour).map Qaf)))], false⟩)] ⟨aio rfl Try.underlying45 ti62 (odt hi34a) (odt hi34b) (Nat.zero_add _), ald rfl ti3 (by decide) (mgt Qaf hg36) (nle rfl) rfl, aio rfl Try.underlying45 ti62 (odt hi37a) (odt hi37b) (Nat.zero_add _), ast rfl ti3 (by rfl) (mgt Qaf hg39) (nle rfl) (Qd9 Qaf rfl), trivial⟩ ?_
       obtain ⟨hz40, h⟩ := cko h
       obtain ⟨x42, hf41, h⟩ := bno h
       refine wx tbk [(1, rb [fu 30, (.tmp 129, (Qu0 p0 x9))] [(2, (.own 2 (((x17.set x9.1.toNat (⟨w64 (x26.Use - x9.2.1), x29.Stairs⟩ : GHour)).set x9.1.toNat (⟨w64 (x35.Use + 1), x38.Stairs⟩ : GHour) : List GHour).map Qaf)))] (.tup [.any, .any, I x42.2.2.1, I x42.2.2.2]))] ⟨Qfw (rd' := [fu 30, (.tmp 129, (.agg [I p0.Tank, I p0.Start, (Quy x17 x9 x26 x29 x35 x38)]))]) [(2, 2, ((x17.set x9.1.toNat (⟨w64 (x26.Use - x9.2.1), x29.Stairs⟩ : GHour)).set x9.1.toNat (⟨w64 (x35.Use + 1), x38.Stairs⟩ : GHour) : List GHour).map Qaf)] ⟨rfl, .same _, rfl, (Qwk ⟨(.same _), (.same _), (Qkp 0 rfl hz40), trivial⟩), trivial⟩ (by rfl) (.tup _ (Qea .any (Qea .any (Qea (.lit _) (Qea (.lit _) Ql3))))) Qls (Qjp (r := (.tup [(.dat 1 ((x42.1 : List Int).map Qad)), (.dat 1 ((x42.2.1 : List Int).map Qad)), I x42.2.2.1, I x42.2.2.2])) (Less.tup ⟨Less.any, Less.any, lrf, lrf, trivial⟩) (apc (first := []) (cap := []) (vs := [(.agg [I p0.Tank, I p0.Start, (Quy x17 x9 x26 x29 x35 x38)])]) rfl Ql7 (Qek N (⟨p0.Tank, p0.Start, ((x17.set x9.1.toNat (⟨w64 (x26.Use - x9.2.1), x29.Stairs⟩ : GHour)).set x9.1.toNat (⟨w64 (x35.Use + 1), x38.Stairs⟩ : GHour)).take ((w64 (x9.1 + 1)).toNat - (0 : Int).toNat)⟩ : GDay) _ hf41) rfl rfl (nlc (NLt.agg _ (nlc nll (nlc nll (nlc (nld Qac _) nl0)))) nl0) (NLt.tup _ (nlc (nld Qaa _) (nlc (nld Qaa _) (nlc nll (nlc nll nl0))))) rfl)), trivial⟩ ?_
       rcases bft ((x33.2.2.2 == 0)) with hb43 | hb43
       ·replace h := Qaw hb43 h
        rcases bft ((x42.2.2.2 == 7)) with hb44 | hb44
        ·replace h := Qaw hb44 h
         obtain ⟨x46, hf45, h⟩ := bno h
         refine wx tbk [(2, rp [(.tmp 136, (B ((x33.2.2.2 == 0))))] (B true)), (6, rp [(.tmp 140, (B ((x42.2.2.2 == 7))))] (B true)), (7, rp [(.tmp 141, B true), fu 21] (B x46))] ⟨asb hb43 (amv rfl), asb hb44 (amv rfl), ag_ (apc (first := []) (cap := []) (vs := []) rfl Qos (Qft 2000  _ hf45) rfl rfl nl0 nll rfl), trivial⟩ ?_
         refine Qai ?_
         obtain rfl := osi h
         exact fend ⟨[B x46], ⟨rot (by kernel_rfl), trivial⟩, rfl⟩ nll
        ·replace h := Qax hb44 h
         refine wx tbk [(2, rp [(.tmp 136, (B ((x33.2.2.2 == 0))))] (B true)), (6, rp [(.tmp 140, (B ((x42.2.2.2 == 7))))] (B false))] ⟨asb hb43 (amv rfl), asb hb44 (amv rfl), trivial⟩ ?_
         refine Qai ?_
         obtain rfl := osi h
         exact fend ⟨[B false], ⟨rot (by kernel_rfl), trivial⟩, rfl⟩ nll
       ·replace h := Qax hb43 h
        refine wx tbk [(2, rp [(.tmp 136, (B ((x33.2.2.2 == 0))))] (B false))] ⟨asb hb43 (amv rfl), trivial⟩ ?_
        refine Qai ?_
        obtain rfl := osi h
        exact fend ⟨[B false], ⟨rot (by kernel_rfl), trivial⟩, rfl⟩ nll
     ·skip
      refine wx tbk [] trivial ?_
      rcases bft ((decide (x9.1 > 0))) with hc47 | hc47
      ·replace h := Qaw hc47 h
       refine wft hc47 (by kernel_rfl) ?_
       obtain ⟨x49, hf48, h⟩ := bno h
       refine wx tbk [(1, ⟨[fu 31, (.tmp 70, (Qg4 p0))], [(1, .unused), (2, .unused)], (.agg [I p0.Tank, I p0.Start, (.gro 2 62 2 (x49.length))]), [(1, (.own 3 [[I p0.Tank, I p0.Start, (.gro 2 62 2 (x49.length))]])), (2, (Qnz x49))], false⟩)] ⟨Qas (first := []) (cap := []) (vs := [(Qg4 p0)]) (σr := []) (σr' := [(.own 3 [[I p0.Tank, I p0.Start, (.gro 2 62 2 (x49.length))]]), (Qnz x49)]) (res' := (.agg [I p0.Tank, I p0.Start, (.gro 2 62 2 (x49.length))])) [1, 2] rfl Qor (Qim N p0 _ hf48) rfl (Qcy (rnc (.plain _ (NLt.agg _ (nlc nll (nlc nll (nlc (nld Qac _) nl0))))) rn0)) Qaq (slc (Qam (rnc (.plain _ nll) (rnc (.plain _ nll) (rnc (Qod rfl) rn0)))) (slc (Qr9 Qac) Qaq)) (Qcy (rnc (.plain _ nll) (rnc (.plain _ nll) (rnc (Qod rfl) rn0)))) rfl rfl rfl, trivial⟩ ?_
       obtain ⟨hz50, h⟩ := cko h
       obtain ⟨hs51, h⟩ := cko h
       obtain ⟨hs52, h⟩ := cko h
       refine wx tbk [(3, rb [(.tmp 73, (.gro 2 62 2 (x49.length))), (.tmp 74, I x9.1)] [(2, (Qnz x49))] (.own 2 2 (0) (x9.1.toNat - (0 : Int).toNat)))] ⟨Qdn (bl' := [(2, (.own 2 ((x49 : List GHour).map Qaf)))]) ⟨rfl, SLess.gro (Qcw hz50), trivial⟩ (awk (rd' := [(.tmp 73, (.own 2 2 (0) (x49.length))), (.tmp 74, I x9.1)]) ⟨rfl, Less.gro, rfl, lrf, trivial⟩ (Qkz (k := .i64) (k' := .i64) (lo := none) (hi := some (.tmp 74)) (l := 0) (hh := x9.1) rfl Try.underlying45 ti62 (fun _ => rfl) (fun e => nomatch e) (Qrh hs51) (Qrg hs51) (odt (Qa1 hs51).2) (odt hs52) rfl rfl)), trivial⟩ ?_
       obtain ⟨hz53, h⟩ := cko h
       obtain ⟨x55, hf54, h⟩ := bno h
       refine wx tbk [(1, rb [fu 30, (.tmp 78, (.agg [I p0.Tank, I p0.Start, (.own 2 2 (0) (x9.1.toNat - (0 : Int).toNat))]))] [(2, (Qnz x49))] (.tup [.any, .any, I x55.2.2.1, I x55.2.2.2]))] ⟨Qdn (bl' := [(2, (.own 2 ((x49 : List GHour).map Qaf)))]) ⟨rfl, SLess.gro (Qcw hz50), trivial⟩ (Qfw (rd' := [fu 30, (.tmp 78, (.agg [I p0.Tank, I p0.Start, (.dat 2 ((x49.take (x9.1.toNat - (0 : Int).toNat) : List GHour).map Qaf))]))]) [(2, 2, (x49 : List GHour).map Qaf)] ⟨rfl, .same _, rfl, (Qwk ⟨(.same _), (.same _), (Qkp 0 rfl hz53), trivial⟩), trivial⟩ (by rfl) (.tup _ (Qea .any (Qea .any (Qea (.lit _) (Qea (.lit _) Ql3))))) Qls (Qjp (r := (.tup [(.dat 1 ((x55.1 : List Int).map Qad)), (.dat 1 ((x55.2.1 : List Int).map Qad)), I x55.2.2.1, I x55.2.2.2])) (Less.tup ⟨Less.any, Less.any, lrf, lrf, trivial⟩) (apc (first := []) (cap := []) (vs := [(.agg [I p0.Tank, I p0.Start, (.dat 2 ((x49.take (x9.1.toNat - (0 : Int).toNat) : List GHour).map Qaf))])]) rfl Ql7 (Qek N (⟨p0.Tank, p0.Start, x49.take (x9.1.toNat - (0 : Int).toNat)⟩ : GDay) _ hf54) rfl rfl (nlc (NLt.agg _ (nlc nll (nlc nll (nlc (nld Qac _) nl0)))) nl0) (NLt.tup _ (nlc (nld Qaa _) (nlc (nld Qaa _) (nlc nll (nlc nll nl0))))) rfl))), trivial⟩ ?_
       refine wx tbk [] trivial ?_
       rcases bft ((x55.2.2.2 != 0)) with hc56 | hc56
       ·replace h := Qaw hc56 h
        refine wft hc56 (by kernel_rfl) ?_
        refine wx tbk [] trivial ?_
        refine Qai ?_
        refine Qaj ?_
        obtain rfl := osi h
        exact fend ⟨[B false], ⟨rot (by kernel_rfl), trivial⟩, rfl⟩ nll
       ·replace h := Qax hc56 h
        refine wfn hc56 (by kernel_rfl) ?_
        refine Qah ?_
        refine thn ?_
        exact ⟨(), h, (mto (n := 144) [(1, .ref 0 3 0 0), (7, I x9.1), (8, I x9.2.1)] [0] [(Qlk p0)] hφ0 (pc (.rn (rqr rfl)) (pc rwl (pc rwl pn))) (qc (spb (lc rwl (lc rwl (lc (.rn (.plain _ (nld Qac _))) ln)))) qn))⟩
      ·replace h := Qax hc47 h
       refine wfn hc47 (by kernel_rfl) ?_
       refine Qah ?_
       refine thn ?_
       exact ⟨(), h, (mto (n := 144) [(1, .ref 0 3 0 0), (7, I x9.1), (8, I x9.2.1)] [0] [(Qlk p0)] hφ0 (pc (.rn (rqr rfl)) (pc rwl (pc rwl pn))) (qc (spb (lc rwl (lc rwl (lc (.rn (.plain _ (nld Qac _))) ln)))) qn))⟩
    ·skip
     rcases bft ((x5.2.2.2 != 7)) with hb57 | hb57
     ·replace h := Qaw hb57 h
      refine wx tbk [(2, rp [(.tmp 48, (B ((x5.2.2.2 != 7))))] (B true))] ⟨asb hb57 (amv rfl), trivial⟩ ?_
      refine Qcz (by kernel_rfl) ?_
      refine wx tbk [] trivial ?_
      refine Qai ?_
      refine Qaj ?_
      obtain rfl := osi h
      exact fend ⟨[B false], ⟨rot (by kernel_rfl), trivial⟩, rfl⟩ nll
     ·replace h := Qax hb57 h
      rcases bft ((x9.2.2 != 0)) with hb58 | hb58
      ·replace h := Qaw hb58 h
       refine wx tbk [(2, rp [(.tmp 48, (B ((x5.2.2.2 != 7))))] (B false)), (6, rp [(.tmp 52, (B ((x9.2.2 != 0))))] (B true))] ⟨asb hb57 (amv rfl), asb hb58 (amv rfl), trivial⟩ ?_
       refine Qcz (by kernel_rfl) ?_
       refine wx tbk [] trivial ?_
       refine Qai ?_
       refine Qaj ?_
       obtain rfl := osi h
       exact fend ⟨[B false], ⟨rot (by kernel_rfl), trivial⟩, rfl⟩ nll
      ·replace h := Qax hb58 h
       rcases bft ((decide (x9.1 < 0))) with hb59 | hb59
       ·replace h := Qaw hb59 h
        refine wx tbk [(2, rp [(.tmp 48, (B ((x5.2.2.2 != 7))))] (B false)), (6, rp [(.tmp 52, (B ((x9.2.2 != 0))))] (B false)), (10, rp [(.tmp 56, (B ((decide (x9.1 < 0)))))] (B true))] ⟨asb hb57 (amv rfl), asb hb58 (amv rfl), asb hb59 (amv rfl), trivial⟩ ?_
        refine Qcz (by kernel_rfl) ?_
        refine wx tbk [] trivial ?_
        refine Qai ?_
        refine Qaj ?_
        obtain rfl := osi h
        exact fend ⟨[B false], ⟨rot (by kernel_rfl), trivial⟩, rfl⟩ nll
       ·replace h := Qax hb59 h
        rcases bft ((decide (x9.1 ≥ (p0.Hours.length : Int)))) with hb60 | hb60
        ·replace h := Qaw hb60 h
         refine wx tbk [(2, rp [(.tmp 48, (B ((x5.2.2.2 != 7))))] (B false)), (6, rp [(.tmp 52, (B ((x9.2.2 != 0))))] (B false)), (10, rp [(.tmp 56, (B ((decide (x9.1 < 0)))))] (B false)), (14, rp [(.tmp 57, B false), (.tmp 60, (Qr0 p0))] (I ((p0.Hours.length : Int)))), (17, rp [(.tmp 63, (B ((decide (x9.1 ≥ (p0.Hours.length : Int))))))] (B true))] ⟨asb hb57 (amv rfl), asb hb58 (amv rfl), asb hb59 (amv rfl), ag_ (alm (c := Qaf) (l := p0.Hours) (aln rfl Try.underlying39 rfl)), asb hb60 (amv rfl), trivial⟩ ?_
         refine Qcz (by kernel_rfl) ?_
         refine wx tbk [] trivial ?_
         refine Qai ?_
         refine Qaj ?_
         obtain rfl := osi h
         exact fend ⟨[B false], ⟨rot (by kernel_rfl), trivial⟩, rfl⟩ nll
        ·replace h := Qax hb60 h
         refine wx tbk [(2, rp [(.tmp 48, (B ((x5.2.2.2 != 7))))] (B false)), (6, rp [(.tmp 52, (B ((x9.2.2 != 0))))] (B false)), (10, rp [(.tmp 56, (B ((decide (x9.1 < 0)))))] (B false)), (14, rp [(.tmp 57, B false), (.tmp 60, (Qr0 p0))] (I ((p0.Hours.length : Int)))), (17, rp [(.tmp 63, (B ((decide (x9.1 ≥ (p0.Hours.length : Int))))))] (B false))] ⟨asb hb57 (amv rfl), asb hb58 (amv rfl), asb hb59 (amv rfl), ag_ (alm (c := Qaf) (l := p0.Hours) (aln rfl Try.underlying39 rfl)), asb hb60 (amv rfl), trivial⟩ ?_
         rcases bft ((decide (x9.2.1 < 1))) with hc61 | hc61
         ·replace h := Qaw hc61 h
          refine wft hc61 (by kernel_rfl) ?_
          refine wx tbk [] trivial ?_
          refine Qai ?_
          refine Qaj ?_
          obtain rfl := osi h
          exact fend ⟨[B false], ⟨rot (by kernel_rfl), trivial⟩, rfl⟩ nll
         ·replace h := Qax hc61 h
          refine wfn hc61 (by kernel_rfl) ?_
          refine Qah ?_
          refine thn ?_
          exact ⟨(), h, (mto (n := 144) [(1, .ref 0 3 0 0), (7, I x9.1), (8, I x9.2.1)] [0] [(Qlk p0)] hφ0 (pc (.rn (rqr rfl)) (pc rwl (pc rwl pn))) (qc (spb (lc rwl (lc rwl (lc (.rn (.plain _ (nld Qac _))) ln)))) qn))⟩
  ·skip
   obtain ⟨x63, hf62, h⟩ := bno h
   rcases bft ((!x63)) with hb64 | hb64
   ·replace h := Qaw hb64 h
    refine wx tbk [(1, rp [fu 29, (.tmp 16, (Qg4 p0))] (B x63)), (3, rp [(.tmp 18, (B ((!x63))))] (B true))] ⟨apc (first := []) (cap := []) (vs := [(Qg4 p0)]) rfl Qwg (Qj2 N p0 _ hf62) rfl rfl (nlc (NLt.agg _ (nlc nll (nlc nll (nlc (nld Qac _) nl0)))) nl0) nll rfl, asb hb64 (amv rfl), trivial⟩ ?_
    refine Qcz (by kernel_rfl) ?_
    obtain ⟨x66, hf65, h⟩ := bno h
    refine wx tbk [(0, rp [fu 21] (B x66))] ⟨apc (first := []) (cap := []) (vs := []) rfl Qos (Qft 2000  _ hf65) rfl rfl nl0 nll rfl, trivial⟩ ?_
    refine Qai ?_
    refine Qaj ?_
    obtain rfl := osi h
    exact fend ⟨[B x66], ⟨rot (by kernel_rfl), trivial⟩, rfl⟩ nll
   ·replace h := Qax hb64 h
    obtain ⟨x68, hf67, h⟩ := bno h
    refine wx tbk [(1, rp [fu 29, (.tmp 16, (Qg4 p0))] (B x63)), (3, rp [(.tmp 18, (B ((!x63))))] (B false)), (5, rp [(.tmp 19, B false), fu 32, (.tmp 20, (Qg4 p0))] (B x68))] ⟨apc (first := []) (cap := []) (vs := [(Qg4 p0)]) rfl Qwg (Qj2 N p0 _ hf62) rfl rfl (nlc (NLt.agg _ (nlc nll (nlc nll (nlc (nld Qac _) nl0)))) nl0) nll rfl, asb hb64 (amv rfl), ag_ (apc (first := []) (cap := []) (vs := [(Qg4 p0)]) rfl enter32 (Qj0 N p0 _ hf67) rfl rfl (nlc (NLt.agg _ (nlc nll (nlc nll (nlc (nld Qac _) nl0)))) nl0) nll rfl), trivial⟩ ?_
    rcases bft ((!x68)) with hc69 | hc69
    ·replace h := Qaw hc69 h
     refine wft hc69 (by kernel_rfl) ?_
     obtain ⟨x71, hf70, h⟩ := bno h
     refine wx tbk [(0, rp [fu 21] (B x71))] ⟨apc (first := []) (cap := []) (vs := []) rfl Qos (Qft 2000  _ hf70) rfl rfl nl0 nll rfl, trivial⟩ ?_
     refine Qai ?_
     refine Qaj ?_
     obtain rfl := osi h
     exact fend ⟨[B x71], ⟨rot (by kernel_rfl), trivial⟩, rfl⟩ nll
    ·replace h := Qax hc69 h
     refine wfn hc69 (by kernel_rfl) ?_
     refine Qah ?_
     refine thn ?_
     exact ⟨(), h, (mto (n := 144) [(1, .ref 0 3 0 0)] [0] [(Qlk p0)] hφ0 (pc (.rn (rqr rfl)) pn) (qc (spb (lc rwl (lc rwl (lc (.rn (.plain _ (nld Qac _))) ln)))) qn))⟩
end Go.Proofs.Ytgdepcgbjjgnfaa
