/-
  Functions of the program: what they compute, as plain functions, and that they do. No conditions.
-/
import Derived.Test.YtgdepcgbjjgnfaaX12
namespace Go.Proofs.Ytgdepcgbjjgnfaa
open Go.RowKit

def Qcz (N : Nat) (p0 : GMeters) (k8 : (List GMeter) × (List GMeter) × (List Bool) → Option GMeters) : Nat → Int → (List GMeter) → (List GMeter) → (List Bool) → Option GMeters
  | 0, _, _, _, _ => none
  | n17 + 1, y9, y10, y11, y12 =>
    bif (decide (y9 < (p0.Flow.length : Int))) then
     (getI p0.Flow y9).bind fun x19 =>
     chk (decide ((y11.length + ([x19]).length) * 16 ≤ 140737488355328)) <|
     Qcz N p0 k8 n17 (w64 (y9 + 1)) y10 (y11 ++ ([x19])) y12
    else
     k8 (y10, y11, y12)
def Qda (N : Nat) (p0 : GMeters) (k4 : (List GMeter) × (List Bool) → Option GMeters) : Nat → Int → (List GMeter) → (List Bool) → Option GMeters
  | 0, _, _, _ => none
  | n30 + 1, y24, y25, y26 =>
    bif (decide (y24 < (p0.Use.length : Int))) then
     (getI p0.Use y24).bind fun x32 =>
     chk (decide ((y25.length + ([x32]).length) * 16 ≤ 140737488355328)) <|
     Qda N p0 k4 n30 (w64 (y24 + 1)) (y25 ++ ([x32])) y26
    else
     k4 (y25, y26)
def Qfc (N : Nat) (p0 : GMeters) : Option GMeters :=
  chk (decide ((([] : List Bool).length + p0.Has.length) * 1 ≤ 140737488355328)) <|
  Qca (fun ⟨y2, y3⟩ =>
    Qca (fun ⟨y5, y6, y7⟩ =>
      some (⟨y5, y6, y7⟩ : GMeters)) fun k8 : (List GMeter) × (List GMeter) × (List Bool) → Option GMeters =>
    Qcz N p0 k8 N 0 y2 ([]) y3) fun k4 : (List GMeter) × (List Bool) → Option GMeters =>
  Qda N p0 k4 N 0 ([]) (([] : List Bool) ++ p0.Has)
set_option maxRecDepth 100000 in
set_option maxHeartbeats 4000000 in
theorem law10_metersX_ok (N : Nat) (p0 : GMeters) (r : GMeters) (h : Qfc N p0 = some r) : Spec Try.prog 51 [(.agg (Qfi p0))] [] (.agg (Qfi r)) [] := by
  refine Qaq Try.func51 rfl 0 (nle rfl) (fun X φ0 w0 hφ0 => ?_)
  unfold Qfc at h
  refine wrg [⟨[(.tmp 0, (.agg [(.dat 2 ((p0.Use : List GMeter).map Qab)), (.dat 2 ((p0.Flow : List GMeter).map Qab)), (.dat 1 ((p0.Has : List Bool).map Qae))]))], [(0, .unused)], .ref 0 3 0 0, [(0, (.own 3 [[(.dat 2 ((p0.Use : List GMeter).map Qab)), (.dat 2 ((p0.Flow : List GMeter).map Qab)), (.dat 1 ((p0.Has : List Bool).map Qae))]]))], false⟩, ⟨[], [(1, .unused)], .ref 1 3 0 0, [(1, .own 3 [[nilS, nilS, nilS]])], false⟩] ?_ ?_
  ·exact ⟨Qbu rfl (by rfl) rfl rfl, Qaz rfl tz105 rfl, trivial⟩
  obtain ⟨ha1, h⟩ := cko h
  refine wrg [⟨[], [(2, .unused)], (.acc 2 4 1 ((([] : List Bool) : List Bool).map Qae)), [(2, .tok)], false⟩, rb [(.tmp 1, .ref 0 3 0 0)] [(0, (.own 3 [[(.dat 2 ((p0.Use : List GMeter).map Qab)), (.dat 2 ((p0.Flow : List GMeter).map Qab)), (.dat 1 ((p0.Has : List Bool).map Qae))]]))] (.ref 0 3 0 2), rb [(.tmp 7, .ref 0 3 0 2)] [(0, (.own 3 [[(.dat 2 ((p0.Use : List GMeter).map Qab)), (.dat 2 ((p0.Flow : List GMeter).map Qab)), (.dat 1 ((p0.Has : List Bool).map Qae))]]))] (.dat 1 ((p0.Has : List Bool).map Qae)), ⟨[(.tmp 6, (.acc 2 4 1 ((([] : List Bool) : List Bool).map Qae))), (.tmp 8, (.dat 1 ((p0.Has : List Bool).map Qae)))], [(2, .tok), (3, .unused)], (.acc 3 4 1 ((([] : List Bool) ++ p0.Has : List Bool).map Qae)), [(2, .dead), (3, .tok)], false⟩, rp [(.tmp 9, (.acc 3 4 1 ((([] : List Bool) ++ p0.Has : List Bool).map Qae)))] (.agg [nilS, nilS, (.acc 3 4 1 ((([] : List Bool) ++ p0.Has : List Bool).map Qae))]), ⟨[], [(4, .unused)], .ref 4 3 0 0, [(4, .own 3 [[nilS, nilS, nilS]])], false⟩, ⟨[(.tmp 3, .ref 4 3 0 0), (.tmp 10, (.agg [nilS, nilS, (.acc 3 4 1 ((([] : List Bool) ++ p0.Has : List Bool).map Qae))]))], [(4, .own 3 [[nilS, nilS, nilS]])], .any, [(4, (.own 3 [[nilS, nilS, (.acc 3 4 1 ((([] : List Bool) ++ p0.Has : List Bool).map Qae))]]))], false⟩] ?_ ?_
  ·exact ⟨Qi0 rfl Try.underlying26 ti4 tz4, afa rfl Try.underlying89 rfl rfl ti26 (by decide) rfl, ald rfl ti26 (by decide) rfl (nle rfl) rfl, Qi2 rfl Try.underlying26 te4 (Base.acc _ _) rfl rfl (ones_map Qae one_bool _) (app_le1 Qae ha1) (app_le2 Qae ha1 (by decide)) (app_map Qae) rfl rfl, Qa9 (vs := [(.acc 3 4 1 ((([] : List Bool) ++ p0.Has : List Bool).map Qae))]) rfl ts105 tz105 rfl (by rfl) rfl, Qaz rfl tz105 rfl, ast rfl ti105 (by rfl) rfl (nle rfl) rfl, trivial⟩
  obtain ⟨k4, hk_k4, h⟩ := jko h
  refine wjn (τ := (List GMeter) × (List Bool)) (fun t => k4 t = some r) (fun ⟨y2, y3⟩ => ⟨mk 62 [(1, .ref 0 3 0 0), (2, .ref 1 3 0 0), (3, .ref 2 3 0 0)], [(.own 3 [[(.dat 2 ((p0.Use : List GMeter).map Qab)), (.dat 2 ((p0.Flow : List GMeter).map Qab)), (.dat 1 ((p0.Has : List Bool).map Qae))]]), (.own 3 [[nilS, nilS, nilS]]), (.own 3 [[(.acc 3 96 2 ((y2 : List GMeter).map Qab)), nilS, (.acc 4 4 1 ((y3 : List Bool).map Qae))]]), .tok, .tok]⟩) (fun t h => ?_) ?_
  ·subst hk_k4
   obtain ⟨y2, y3⟩ := t
   obtain ⟨k8, hk_k8, h⟩ := jko h
   refine wjn (τ := (List GMeter) × (List GMeter) × (List Bool)) (fun t => k8 t = some r) (fun ⟨y5, y6, y7⟩ => ⟨mk 62 [(2, .ref 0 3 0 0), (3, .ref 1 3 0 0)], [(.own 3 [[nilS, nilS, nilS]]), (.own 3 [[(.acc 2 96 2 ((y5 : List GMeter).map Qab)), (.acc 3 96 2 ((y6 : List GMeter).map Qab)), (.acc 4 4 1 ((y7 : List Bool).map Qae))]]), .tok, .tok, .tok]⟩) (fun t h => ?_) ?_
   ·subst hk_k8
    obtain ⟨y5, y6, y7⟩ := t
    refine wrg [rb [(.tmp 3, .ref 1 3 0 0)] [(1, (.own 3 [[(.acc 2 96 2 ((y5 : List GMeter).map Qab)), (.acc 3 96 2 ((y6 : List GMeter).map Qab)), (.acc 4 4 1 ((y7 : List Bool).map Qae))]]))] (.agg [(.acc 2 96 2 ((y5 : List GMeter).map Qab)), (.acc 3 96 2 ((y6 : List GMeter).map Qab)), (.acc 4 4 1 ((y7 : List Bool).map Qae))]), ⟨[(.tmp 2, .ref 0 3 0 0), (.tmp 61, (.agg [(.acc 2 96 2 ((y5 : List GMeter).map Qab)), (.acc 3 96 2 ((y6 : List GMeter).map Qab)), (.acc 4 4 1 ((y7 : List Bool).map Qae))]))], [(0, .own 3 [[nilS, nilS, nilS]])], .any, [(0, (.own 3 [[(.acc 2 96 2 ((y5 : List GMeter).map Qab)), (.acc 3 96 2 ((y6 : List GMeter).map Qab)), (.acc 4 4 1 ((y7 : List Bool).map Qae))]]))], false⟩] ?_ ?_
    ·exact ⟨ald rfl ti105 (by decide) rfl (nle rfl) rfl, ast rfl ti105 (by rfl) rfl (nle rfl) rfl, trivial⟩
    refine Qak ?_
    obtain rfl := osi h
    exact ⟨⟨[(.agg [(.dat 2 ((y5 : List GMeter).map Qab)), (.dat 2 ((y6 : List GMeter).map Qab)), (.dat 1 ((y7 : List Bool).map Qae))])], ⟨Qhs (v := (.agg [(.acc 2 96 2 ((y5 : List GMeter).map Qab)), (.acc 3 96 2 ((y6 : List GMeter).map Qab)), (.acc 4 4 1 ((y7 : List Bool).map Qae))])) (Qds (n := 0) (m := 3) (j := 0) (i := 0) (xs := [[(.acc 2 96 2 ((y5 : List GMeter).map Qab)), (.acc 3 96 2 ((y6 : List GMeter).map Qab)), (.acc 4 4 1 ((y7 : List Bool).map Qae))]]) (by kernel_rfl) (by kernel_rfl) ti105 (by decide) rfl (nle rfl) rfl) (Less.agg ⟨Less.acc, Less.acc, Less.acc, trivial⟩), trivial⟩, rfl⟩, (NLt.agg _ (nlc (nld Qal _) (nlc (nld Qal _) (nlc (nld Qbd _) nl0)))), Nat.le_refl _, fun n hn => absurd hn (Nat.not_lt_zero n)⟩
   ·skip
    refine wrg [mc (.int .i64 0)] ?_ ?_
    ·exact ⟨aas rfl, trivial⟩
    refine Qan ?_
    refine wmr (Mor.trans (mor_nilb (n := 5) (ty := 96) (m := 2) (q := 2) (mq := 3) (c := [(.acc 3 96 2 ((y2 : List GMeter).map Qab)), nilS, (.acc 4 4 1 ((y3 : List Bool).map Qae))]) 1 (by kernel_rfl) (by kernel_rfl) (by kernel_rfl) (by decide)) (mto (n := 62) (l' := [(1, .ref 0 3 0 0), (2, .ref 1 3 0 0), (3, .ref 2 3 0 0), (5, I 0)]) (own' := [(.own 3 [[(.dat 2 ((p0.Use : List GMeter).map Qab)), (.dat 2 ((p0.Flow : List GMeter).map Qab)), (.dat 1 ((p0.Has : List Bool).map Qae))]]), (.own 3 [[nilS, nilS, nilS]]), (.own 3 [[(.acc 3 96 2 ((y2 : List GMeter).map Qab)), (.acc 4 96 2 ((([]) : List GMeter).map Qab)), (.acc 5 4 1 ((y3 : List Bool).map Qae))]]), .tok, .tok, .tok]) [(1, .ref 0 3 0 0), (2, .ref 1 3 0 0), (3, .ref 2 3 0 0), (5, I 0)] [0, 1, 2, 3, 5, 4] [(.own 3 [[(.dat 2 ((p0.Use : List GMeter).map Qab)), (.dat 2 ((p0.Flow : List GMeter).map Qab)), (.dat 1 ((p0.Has : List Bool).map Qae))]]), (.own 3 [[nilS, nilS, nilS]]), (.own 3 [[(.acc 3 96 2 ((y2 : List GMeter).map Qab)), (.acc 5 96 2 (([] : List GMeter).map Qab)), (.acc 4 4 1 ((y3 : List Bool).map Qae))]]), .tok, .tok, .tok] hφ0 (pc (.rn (rqr rfl)) (pc (.rn (rqr rfl)) (pc (.rn (rqr rfl)) (pc rwl pn)))) (qc (spb (lc (.rn (.plain _ (nld Qal _))) (lc (.rn (.plain _ (nld Qal _))) (lc (.rn (.plain _ (nld Qbd _))) ln)))) (qc (spb (lc rwl (lc rwl (lc rwl ln)))) (qc (spb (lc (.rn (Qe6 rfl (Qef Qal _))) (lc (.rn (Qe6 rfl (Qef Qal _))) (lc (.rn (Qe6 rfl (Qef Qbd _))) ln)))) (qc .tok (qc .tok (qc .tok qn)))))))) ?_
    refine Qcc (τ := Int × (List GMeter) × (List GMeter) × (List Bool)) (fun n t => Qcz N p0 k8 n t.1 t.2.1 t.2.2.1 t.2.2.2 = some r) (fun ⟨y9, y10, y11, y12⟩ => ⟨mk 62 [(1, .ref 0 3 0 0), (2, .ref 1 3 0 0), (3, .ref 2 3 0 0), (5, I y9)], [(.own 3 [[(.dat 2 ((p0.Use : List GMeter).map Qab)), (.dat 2 ((p0.Flow : List GMeter).map Qab)), (.dat 1 ((p0.Has : List Bool).map Qae))]]), (.own 3 [[nilS, nilS, nilS]]), (.own 3 [[(.acc 3 96 2 ((y10 : List GMeter).map Qab)), (.acc 4 96 2 ((y11 : List GMeter).map Qab)), (.acc 5 4 1 ((y12 : List Bool).map Qae))]]), .tok, .tok, .tok]⟩) (fun t h => by rw [Qcz] at h; cases h) (fun n17 ih t h => ?_) N (0, y2, [], y3) h
    obtain ⟨y9, y10, y11, y12⟩ := t
    rw [Qcz] at h
    skip
    refine wsq ?_
    refine wrg [mv 5 (I y9), rb [(.tmp 1, .ref 0 3 0 0)] [(0, (.own 3 [[(.dat 2 ((p0.Use : List GMeter).map Qab)), (.dat 2 ((p0.Flow : List GMeter).map Qab)), (.dat 1 ((p0.Has : List Bool).map Qae))]]))] (.ref 0 3 0 1), rb [(.tmp 37, .ref 0 3 0 1)] [(0, (.own 3 [[(.dat 2 ((p0.Use : List GMeter).map Qab)), (.dat 2 ((p0.Flow : List GMeter).map Qab)), (.dat 1 ((p0.Has : List Bool).map Qae))]]))] (.dat 2 ((p0.Flow : List GMeter).map Qab)), rp [(.tmp 38, (.dat 2 ((p0.Flow : List GMeter).map Qab)))] (I ((p0.Flow.length : Int))), rp [(.tmp 36, I y9), (.tmp 39, (I ((p0.Flow.length : Int))))] (B ((decide (y9 < (p0.Flow.length : Int)))))] ?_ ?_
    ·exact ⟨amv rfl, afa rfl Try.underlying89 rfl rfl ti87 (by decide) rfl, ald rfl ti87 (by decide) rfl (nle rfl) rfl, alm (c := Qab) (l := p0.Flow) (aln rfl Try.underlying87 rfl), abn rfl rfl, trivial⟩
    rcases bft ((decide (y9 < (p0.Flow.length : Int)))) with hc18 | hc18
    ·replace h := Qav hc18 h
     refine wft hc18 (by kernel_rfl) ?_
     refine Qam ?_
     refine thn ?_
     refine wsq ?_
     refine Qan ?_
     obtain ⟨x19, hg20, h⟩ := bno h
     obtain ⟨hi21, hj22⟩ := gsm hg20
     obtain ⟨ha23, h⟩ := cko h
     refine Qde [rb [(.tmp 3, .ref 2 3 0 0)] [(2, (.own 3 [[(.acc 3 96 2 ((y10 : List GMeter).map Qab)), (.acc 4 96 2 ((y11 : List GMeter).map Qab)), (.acc 5 4 1 ((y12 : List Bool).map Qae))]]))] (.ref 2 3 0 1), rb [(.tmp 43, .ref 2 3 0 1)] [(2, (.own 3 [[(.acc 3 96 2 ((y10 : List GMeter).map Qab)), (.acc 4 96 2 ((y11 : List GMeter).map Qab)), (.acc 5 4 1 ((y12 : List Bool).map Qae))]]))] (.acc 4 96 2 ((y11 : List GMeter).map Qab)), rb [(.tmp 1, .ref 0 3 0 0)] [(0, (.own 3 [[(.dat 2 ((p0.Use : List GMeter).map Qab)), (.dat 2 ((p0.Flow : List GMeter).map Qab)), (.dat 1 ((p0.Has : List Bool).map Qae))]]))] (.ref 0 3 0 1), rb [(.tmp 45, .ref 0 3 0 1)] [(0, (.own 3 [[(.dat 2 ((p0.Use : List GMeter).map Qab)), (.dat 2 ((p0.Flow : List GMeter).map Qab)), (.dat 1 ((p0.Has : List Bool).map Qae))]]))] (.dat 2 ((p0.Flow : List GMeter).map Qab)), mv 5 (I y9), rp [(.tmp 46, (.dat 2 ((p0.Flow : List GMeter).map Qab))), (.tmp 47, I y9)] (.dptr (Qab (x19)) 0), mv 48 (.dptr (Qab (x19)) 0), rp [(.tmp 49, (.dptr (Qab (x19)) 0))] (I x19.Reading), rb [(.tmp 1, .ref 0 3 0 0)] [(0, (.own 3 [[(.dat 2 ((p0.Use : List GMeter).map Qab)), (.dat 2 ((p0.Flow : List GMeter).map Qab)), (.dat 1 ((p0.Has : List Bool).map Qae))]]))] (.ref 0 3 0 1), rb [(.tmp 51, .ref 0 3 0 1)] [(0, (.own 3 [[(.dat 2 ((p0.Use : List GMeter).map Qab)), (.dat 2 ((p0.Flow : List GMeter).map Qab)), (.dat 1 ((p0.Has : List Bool).map Qae))]]))] (.dat 2 ((p0.Flow : List GMeter).map Qab)), mv 5 (I y9), rp [(.tmp 52, (.dat 2 ((p0.Flow : List GMeter).map Qab))), (.tmp 53, I y9)] (.dptr (Qab (x19)) 0), rp [(.tmp 54, (.dptr (Qab (x19)) 0))] (.dptr (Qab (x19)) 1), rp [(.tmp 55, (.dptr (Qab (x19)) 1))] (I x19.Off), rp [(.tmp 50, I x19.Reading), (.tmp 56, I x19.Off)] (.agg [I x19.Reading, I x19.Off]), rp [(.tmp 57, (.agg [I x19.Reading, I x19.Off]))] (.dat 2 (([x19] : List GMeter).map Qab)), ⟨[(.tmp 44, (.acc 4 96 2 ((y11 : List GMeter).map Qab))), (.tmp 58, (.dat 2 (([x19] : List GMeter).map Qab)))], [(4, .tok), (6, .unused)], (.acc 6 96 2 ((y11 ++ ([x19]) : List GMeter).map Qab)), [(4, .dead), (6, .tok)], false⟩, rb [(.tmp 3, .ref 2 3 0 0)] [(2, (.own 3 [[(.acc 3 96 2 ((y10 : List GMeter).map Qab)), (.acc 4 96 2 ((y11 : List GMeter).map Qab)), (.acc 5 4 1 ((y12 : List Bool).map Qae))]]))] (.ref 2 3 0 1), ⟨[(.tmp 60, .ref 2 3 0 1), (.tmp 59, (.acc 6 96 2 ((y11 ++ ([x19]) : List GMeter).map Qab)))], [(2, (.own 3 [[(.acc 3 96 2 ((y10 : List GMeter).map Qab)), (.acc 4 96 2 ((y11 : List GMeter).map Qab)), (.acc 5 4 1 ((y12 : List Bool).map Qae))]]))], .any, [(2, (.own 3 [[(.acc 3 96 2 ((y10 : List GMeter).map Qab)), (.acc 6 96 2 ((y11 ++ ([x19]) : List GMeter).map Qab)), (.acc 5 4 1 ((y12 : List Bool).map Qae))]]))], false⟩] ?_ ?_
     ·exact ⟨afa rfl Try.underlying105 rfl rfl Qfg (by decide) rfl, ald rfl Qfg (by decide) rfl (nle rfl) rfl, afa rfl Try.underlying89 rfl rfl ti87 (by decide) rfl, ald rfl ti87 (by decide) rfl (nle rfl) rfl, amv rfl, aid rfl Try.underlying87 ti91 rfl rfl hi21 (mgt Qab hj22) rfl, afd rfl Try.underlying91 rfl rfl ti3 (by decide) rfl, ald_ rfl ti3 (by decide) (nle rfl) rfl, afa rfl Try.underlying89 rfl rfl ti87 (by decide) rfl, ald rfl ti87 (by decide) rfl (nle rfl) rfl, amv rfl, aid rfl Try.underlying87 ti91 rfl rfl hi21 (mgt Qab hj22) rfl, afd rfl Try.underlying91 rfl rfl ti3 (by decide) rfl, ald_ rfl ti3 (by decide) (nle rfl) rfl, Qa9 (vs := [I x19.Reading, I x19.Off]) rfl ts96 tz96 rfl (by rfl) rfl, Qbg (vs := [(.agg [I x19.Reading, I x19.Off])]) rfl Try.underlying103 ti96 tz96 rfl (by decide) rfl (by decide) (by rfl) (by rfl) (by rfl) rfl, Qi2 rfl Try.underlying103 te96 (Base.acc _ _) rfl rfl (by rfl) (app_le1 Qab ha23) (app_le2 Qab ha23 (by decide)) (app_map Qab) rfl rfl, afa rfl Try.underlying105 rfl rfl Qfg (by decide) rfl, ast rfl Qfg (by rfl) rfl (nle rfl) rfl, trivial⟩
     refine bln ?_
     refine thn ?_
     refine Qar [mv 5 (I y9), rp [(.tmp 41, I y9), ci 1] (I (w64 (y9 + 1))), mv 42 (I (w64 (y9 + 1)))] ?_ ?_
     ·exact ⟨amv rfl, abn rfl rfl, aas rfl, trivial⟩
     refine thn ?_
     exact arm (mto (n := 62) [(1, .ref 0 3 0 0), (2, .ref 1 3 0 0), (3, .ref 2 3 0 0), (5, (I (w64 (y9 + 1))))] [0, 1, 2, 3, 6, 5] [(.own 3 [[(.dat 2 ((p0.Use : List GMeter).map Qab)), (.dat 2 ((p0.Flow : List GMeter).map Qab)), (.dat 1 ((p0.Has : List Bool).map Qae))]]), (.own 3 [[nilS, nilS, nilS]]), (.own 3 [[(.acc 3 96 2 ((y10 : List GMeter).map Qab)), (.acc 6 96 2 ((y11 ++ ([x19]) : List GMeter).map Qab)), (.acc 5 4 1 ((y12 : List Bool).map Qae))]]), .tok, .tok, .tok] hφ0 (pc (.rn (rqr rfl)) (pc (.rn (rqr rfl)) (pc (.rn (rqr rfl)) (pc rwl pn)))) (qc (spb (lc (.rn (.plain _ (nld Qal _))) (lc (.rn (.plain _ (nld Qal _))) (lc (.rn (.plain _ (nld Qbd _))) ln)))) (qc (spb (lc rwl (lc rwl (lc rwl ln)))) (qc (spb (lc (.rn (Qe6 rfl (Qef Qal _))) (lc (.rn (Qe6 rfl (Qef Qal _))) (lc (.rn (Qe6 rfl (Qef Qbd _))) ln)))) (qc .tok (qc .tok (qc .tok qn))))))) (ih (w64 (y9 + 1), y10, y11 ++ ([x19]), y12) h)
    ·replace h := Qaw hc18 h
     refine wfn hc18 (by kernel_rfl) ?_
     refine Qbf ?_
     refine Qau ?_
     refine Qau ?_
     refine Qbe rfl ?_
     refine thn ?_
     exact ⟨(y10, y11, y12), h, (mto (n := 62) [(2, .ref 1 3 0 0), (3, .ref 2 3 0 0)] [1, 2, 3, 4, 5] [(.own 3 [[nilS, nilS, nilS]]), (.own 3 [[(.acc 3 96 2 ((y10 : List GMeter).map Qab)), (.acc 4 96 2 ((y11 : List GMeter).map Qab)), (.acc 5 4 1 ((y12 : List Bool).map Qae))]]), .tok, .tok, .tok] hφ0 (pc (.rn (rqr rfl)) (pc (.rn (rqr rfl)) pn)) (qc (spb (lc rwl (lc rwl (lc rwl ln)))) (qc (spb (lc (.rn (Qe6 rfl (Qef Qal _))) (lc (.rn (Qe6 rfl (Qef Qal _))) (lc (.rn (Qe6 rfl (Qef Qbd _))) ln)))) (qc .tok (qc .tok (qc .tok qn))))))⟩
  ·skip
   refine wrg [mc (.int .i64 0)] ?_ ?_
   ·exact ⟨aas rfl, trivial⟩
   refine Qan ?_
   refine wmr (Mor.trans (mor_nilb (n := 5) (ty := 96) (m := 2) (q := 4) (mq := 3) (c := [nilS, nilS, (.acc 3 4 1 ((([] : List Bool) ++ p0.Has : List Bool).map Qae))]) 0 (by kernel_rfl) (by kernel_rfl) (by kernel_rfl) (by decide)) (mto (n := 62) (l' := [(1, .ref 0 3 0 0), (2, .ref 1 3 0 0), (3, .ref 2 3 0 0), (4, I 0)]) (own' := [(.own 3 [[(.dat 2 ((p0.Use : List GMeter).map Qab)), (.dat 2 ((p0.Flow : List GMeter).map Qab)), (.dat 1 ((p0.Has : List Bool).map Qae))]]), (.own 3 [[nilS, nilS, nilS]]), (.own 3 [[(.acc 3 96 2 ((([]) : List GMeter).map Qab)), nilS, (.acc 4 4 1 (((([] : List Bool) ++ p0.Has) : List Bool).map Qae))]]), .tok, .tok]) [(1, .ref 0 3 0 0), (2, .ref 1 3 0 0), (3, .ref 4 3 0 0), (4, I 0)] [0, 1, 4, 5, 3] [(.own 3 [[(.dat 2 ((p0.Use : List GMeter).map Qab)), (.dat 2 ((p0.Flow : List GMeter).map Qab)), (.dat 1 ((p0.Has : List Bool).map Qae))]]), (.own 3 [[nilS, nilS, nilS]]), (.own 3 [[(.acc 5 96 2 (([] : List GMeter).map Qab)), nilS, (.acc 3 4 1 ((([] : List Bool) ++ p0.Has : List Bool).map Qae))]]), .tok, .tok] hφ0 (pc (.rn (rqr rfl)) (pc (.rn (rqr rfl)) (pc (.rn (rqr rfl)) (pc rwl pn)))) (qc (spb (lc (.rn (.plain _ (nld Qal _))) (lc (.rn (.plain _ (nld Qal _))) (lc (.rn (.plain _ (nld Qbd _))) ln)))) (qc (spb (lc rwl (lc rwl (lc rwl ln)))) (qc (spb (lc (.rn (Qe6 rfl (Qef Qal _))) (lc rwl (lc (.rn (Qe6 rfl (Qef Qbd _))) ln)))) (qc .tok (qc .tok qn))))))) ?_
   refine Qcc (τ := Int × (List GMeter) × (List Bool)) (fun n t => Qda N p0 k4 n t.1 t.2.1 t.2.2 = some r) (fun ⟨y24, y25, y26⟩ => ⟨mk 62 [(1, .ref 0 3 0 0), (2, .ref 1 3 0 0), (3, .ref 2 3 0 0), (4, I y24)], [(.own 3 [[(.dat 2 ((p0.Use : List GMeter).map Qab)), (.dat 2 ((p0.Flow : List GMeter).map Qab)), (.dat 1 ((p0.Has : List Bool).map Qae))]]), (.own 3 [[nilS, nilS, nilS]]), (.own 3 [[(.acc 3 96 2 ((y25 : List GMeter).map Qab)), nilS, (.acc 4 4 1 ((y26 : List Bool).map Qae))]]), .tok, .tok]⟩) (fun t h => by rw [Qda] at h; cases h) (fun n30 ih t h => ?_) N (0, [], ([] : List Bool) ++ p0.Has) h
   obtain ⟨y24, y25, y26⟩ := t
   rw [Qda] at h
   skip
   refine wsq ?_
   refine wrg [mv 4 (I y24), rb [(.tmp 1, .ref 0 3 0 0)] [(0, (.own 3 [[(.dat 2 ((p0.Use : List GMeter).map Qab)), (.dat 2 ((p0.Flow : List GMeter).map Qab)), (.dat 1 ((p0.Has : List Bool).map Qae))]]))] (.ref 0 3 0 0), rb [(.tmp 12, .ref 0 3 0 0)] [(0, (.own 3 [[(.dat 2 ((p0.Use : List GMeter).map Qab)), (.dat 2 ((p0.Flow : List GMeter).map Qab)), (.dat 1 ((p0.Has : List Bool).map Qae))]]))] (.dat 2 ((p0.Use : List GMeter).map Qab)), rp [(.tmp 13, (.dat 2 ((p0.Use : List GMeter).map Qab)))] (I ((p0.Use.length : Int))), rp [(.tmp 11, I y24), (.tmp 14, (I ((p0.Use.length : Int))))] (B ((decide (y24 < (p0.Use.length : Int)))))] ?_ ?_
   ·exact ⟨amv rfl, afa rfl Try.underlying89 rfl rfl ti87 (by decide) rfl, ald rfl ti87 (by decide) rfl (nle rfl) rfl, alm (c := Qab) (l := p0.Use) (aln rfl Try.underlying87 rfl), abn rfl rfl, trivial⟩
   rcases bft ((decide (y24 < (p0.Use.length : Int)))) with hc31 | hc31
   ·replace h := Qav hc31 h
    refine wft hc31 (by kernel_rfl) ?_
    refine Qam ?_
    refine thn ?_
    refine wsq ?_
    refine Qan ?_
    obtain ⟨x32, hg33, h⟩ := bno h
    obtain ⟨hi34, hj35⟩ := gsm hg33
    obtain ⟨ha36, h⟩ := cko h
    refine Qde [rb [(.tmp 3, .ref 2 3 0 0)] [(2, (.own 3 [[(.acc 3 96 2 ((y25 : List GMeter).map Qab)), nilS, (.acc 4 4 1 ((y26 : List Bool).map Qae))]]))] (.ref 2 3 0 0), rb [(.tmp 18, .ref 2 3 0 0)] [(2, (.own 3 [[(.acc 3 96 2 ((y25 : List GMeter).map Qab)), nilS, (.acc 4 4 1 ((y26 : List Bool).map Qae))]]))] (.acc 3 96 2 ((y25 : List GMeter).map Qab)), rb [(.tmp 1, .ref 0 3 0 0)] [(0, (.own 3 [[(.dat 2 ((p0.Use : List GMeter).map Qab)), (.dat 2 ((p0.Flow : List GMeter).map Qab)), (.dat 1 ((p0.Has : List Bool).map Qae))]]))] (.ref 0 3 0 0), rb [(.tmp 20, .ref 0 3 0 0)] [(0, (.own 3 [[(.dat 2 ((p0.Use : List GMeter).map Qab)), (.dat 2 ((p0.Flow : List GMeter).map Qab)), (.dat 1 ((p0.Has : List Bool).map Qae))]]))] (.dat 2 ((p0.Use : List GMeter).map Qab)), mv 4 (I y24), rp [(.tmp 21, (.dat 2 ((p0.Use : List GMeter).map Qab))), (.tmp 22, I y24)] (.dptr (Qab (x32)) 0), mv 23 (.dptr (Qab (x32)) 0), rp [(.tmp 24, (.dptr (Qab (x32)) 0))] (I x32.Reading), rb [(.tmp 1, .ref 0 3 0 0)] [(0, (.own 3 [[(.dat 2 ((p0.Use : List GMeter).map Qab)), (.dat 2 ((p0.Flow : List GMeter).map Qab)), (.dat 1 ((p0.Has : List Bool).map Qae))]]))] (.ref 0 3 0 0), rb [(.tmp 26, .ref 0 3 0 0)] [(0, (.own 3 [[(.dat 2 ((p0.Use : List GMeter).map Qab)), (.dat 2 ((p0.Flow : List GMeter).map Qab)), (.dat 1 ((p0.Has : List Bool).map Qae))]]))] (.dat 2 ((p0.Use : List GMeter).map Qab)), mv 4 (I y24), rp [(.tmp 27, (.dat 2 ((p0.Use : List GMeter).map Qab))), (.tmp 28, I y24)] (.dptr (Qab (x32)) 0), rp [(.tmp 29, (.dptr (Qab (x32)) 0))] (.dptr (Qab (x32)) 1), rp [(.tmp 30, (.dptr (Qab (x32)) 1))] (I x32.Off), rp [(.tmp 25, I x32.Reading), (.tmp 31, I x32.Off)] (.agg [I x32.Reading, I x32.Off]), rp [(.tmp 32, (.agg [I x32.Reading, I x32.Off]))] (.dat 2 (([x32] : List GMeter).map Qab)), ⟨[(.tmp 19, (.acc 3 96 2 ((y25 : List GMeter).map Qab))), (.tmp 33, (.dat 2 (([x32] : List GMeter).map Qab)))], [(3, .tok), (5, .unused)], (.acc 5 96 2 ((y25 ++ ([x32]) : List GMeter).map Qab)), [(3, .dead), (5, .tok)], false⟩, rb [(.tmp 3, .ref 2 3 0 0)] [(2, (.own 3 [[(.acc 3 96 2 ((y25 : List GMeter).map Qab)), nilS, (.acc 4 4 1 ((y26 : List Bool).map Qae))]]))] (.ref 2 3 0 0), ⟨[(.tmp 35, .ref 2 3 0 0), (.tmp 34, (.acc 5 96 2 ((y25 ++ ([x32]) : List GMeter).map Qab)))], [(2, (.own 3 [[(.acc 3 96 2 ((y25 : List GMeter).map Qab)), nilS, (.acc 4 4 1 ((y26 : List Bool).map Qae))]]))], .any, [(2, (.own 3 [[(.acc 5 96 2 ((y25 ++ ([x32]) : List GMeter).map Qab)), nilS, (.acc 4 4 1 ((y26 : List Bool).map Qae))]]))], false⟩] ?_ ?_
    ·exact ⟨afa rfl Try.underlying105 rfl rfl Qfg (by decide) rfl, ald rfl Qfg (by decide) rfl (nle rfl) rfl, afa rfl Try.underlying89 rfl rfl ti87 (by decide) rfl, ald rfl ti87 (by decide) rfl (nle rfl) rfl, amv rfl, aid rfl Try.underlying87 ti91 rfl rfl hi34 (mgt Qab hj35) rfl, afd rfl Try.underlying91 rfl rfl ti3 (by decide) rfl, ald_ rfl ti3 (by decide) (nle rfl) rfl, afa rfl Try.underlying89 rfl rfl ti87 (by decide) rfl, ald rfl ti87 (by decide) rfl (nle rfl) rfl, amv rfl, aid rfl Try.underlying87 ti91 rfl rfl hi34 (mgt Qab hj35) rfl, afd rfl Try.underlying91 rfl rfl ti3 (by decide) rfl, ald_ rfl ti3 (by decide) (nle rfl) rfl, Qa9 (vs := [I x32.Reading, I x32.Off]) rfl ts96 tz96 rfl (by rfl) rfl, Qbg (vs := [(.agg [I x32.Reading, I x32.Off])]) rfl Try.underlying103 ti96 tz96 rfl (by decide) rfl (by decide) (by rfl) (by rfl) (by rfl) rfl, Qi2 rfl Try.underlying103 te96 (Base.acc _ _) rfl rfl (by rfl) (app_le1 Qab ha36) (app_le2 Qab ha36 (by decide)) (app_map Qab) rfl rfl, afa rfl Try.underlying105 rfl rfl Qfg (by decide) rfl, ast rfl Qfg (by rfl) rfl (nle rfl) rfl, trivial⟩
    refine bln ?_
    refine thn ?_
    refine Qar [mv 4 (I y24), rp [(.tmp 16, I y24), ci 1] (I (w64 (y24 + 1))), mv 17 (I (w64 (y24 + 1)))] ?_ ?_
    ·exact ⟨amv rfl, abn rfl rfl, aas rfl, trivial⟩
    refine thn ?_
    exact arm (mto (n := 62) [(1, .ref 0 3 0 0), (2, .ref 1 3 0 0), (3, .ref 2 3 0 0), (4, (I (w64 (y24 + 1))))] [0, 1, 2, 5, 4] [(.own 3 [[(.dat 2 ((p0.Use : List GMeter).map Qab)), (.dat 2 ((p0.Flow : List GMeter).map Qab)), (.dat 1 ((p0.Has : List Bool).map Qae))]]), (.own 3 [[nilS, nilS, nilS]]), (.own 3 [[(.acc 5 96 2 ((y25 ++ ([x32]) : List GMeter).map Qab)), nilS, (.acc 4 4 1 ((y26 : List Bool).map Qae))]]), .tok, .tok] hφ0 (pc (.rn (rqr rfl)) (pc (.rn (rqr rfl)) (pc (.rn (rqr rfl)) (pc rwl pn)))) (qc (spb (lc (.rn (.plain _ (nld Qal _))) (lc (.rn (.plain _ (nld Qal _))) (lc (.rn (.plain _ (nld Qbd _))) ln)))) (qc (spb (lc rwl (lc rwl (lc rwl ln)))) (qc (spb (lc (.rn (Qe6 rfl (Qef Qal _))) (lc rwl (lc (.rn (Qe6 rfl (Qef Qbd _))) ln)))) (qc .tok (qc .tok qn)))))) (ih (w64 (y24 + 1), y25 ++ ([x32]), y26) h)
   ·replace h := Qaw hc31 h
    refine wfn hc31 (by kernel_rfl) ?_
    refine Qbf ?_
    refine Qau ?_
    refine Qau ?_
    refine Qbe rfl ?_
    refine thn ?_
    exact ⟨(y25, y26), h, (mto (n := 62) [(1, .ref 0 3 0 0), (2, .ref 1 3 0 0), (3, .ref 2 3 0 0)] [0, 1, 2, 3, 4] [(.own 3 [[(.dat 2 ((p0.Use : List GMeter).map Qab)), (.dat 2 ((p0.Flow : List GMeter).map Qab)), (.dat 1 ((p0.Has : List Bool).map Qae))]]), (.own 3 [[nilS, nilS, nilS]]), (.own 3 [[(.acc 3 96 2 ((y25 : List GMeter).map Qab)), nilS, (.acc 4 4 1 ((y26 : List Bool).map Qae))]]), .tok, .tok] hφ0 (pc (.rn (rqr rfl)) (pc (.rn (rqr rfl)) (pc (.rn (rqr rfl)) pn))) (qc (spb (lc (.rn (.plain _ (nld Qal _))) (lc (.rn (.plain _ (nld Qal _))) (lc (.rn (.plain _ (nld Qbd _))) ln)))) (qc (spb (lc rwl (lc rwl (lc rwl ln)))) (qc (spb (lc (.rn (Qe6 rfl (Qef Qal _))) (lc rwl (lc (.rn (Qe6 rfl (Qef Qbd _))) ln)))) (qc .tok (qc .tok qn))))))⟩

def Qdt (N : Nat) (p0 : GMeter) : Option Bool :=
  (Qet N p0.Reading 0 1000000000).bind fun x2 =>
  bif x2 then
   (Qet N p0.Off 0 500).bind fun x5 =>
   some x5
  else
   some false
set_option maxRecDepth 100000 in
set_option maxHeartbeats 4000000 in
theorem Qd6 (N : Nat) (p0 : GMeter) (r : Bool) (h : Qdt N p0 = some r) : Spec Try.prog 48 [(.agg (Qab p0))] [] (B r) [] := by
  refine Qaq Try.func48 rfl 0 (nle rfl) (fun X φ0 w0 hφ0 => ?_)
  unfold Qdt at h
  refine wrg [⟨[(.tmp 0, (.agg [I p0.Reading, I p0.Off]))], [(0, .unused)], .ref 0 2 0 0, [(0, .own 2 [[I p0.Reading, I p0.Off]])], false⟩, mc (.bool false)] ?_ ?_
  ·exact ⟨Qbu rfl (by rfl) rfl rfl, aas rfl, trivial⟩
  obtain ⟨x2, hf1, h⟩ := bno h
  rcases bft (x2) with hb3 | hb3
  ·replace h := Qav hb3 h
   obtain ⟨x5, hf4, h⟩ := bno h
   refine wrg [rb [(.tmp 1, .ref 0 2 0 0)] [(0, .own 2 [[I p0.Reading, I p0.Off]])] (.ref 0 2 0 0), rb [(.tmp 3, .ref 0 2 0 0)] [(0, .own 2 [[I p0.Reading, I p0.Off]])] (I p0.Reading), rp [fu 27, (.tmp 4, I p0.Reading), ci 0, ci 1000000000] (B x2), rp [(.tmp 5, B x2)] (B true), rb [(.tmp 6, B true), (.tmp 1, .ref 0 2 0 0)] [(0, .own 2 [[I p0.Reading, I p0.Off]])] (.ref 0 2 0 1), rb [(.tmp 6, B true), (.tmp 7, .ref 0 2 0 1)] [(0, .own 2 [[I p0.Reading, I p0.Off]])] (I p0.Off), rp [(.tmp 6, B true), fu 27, (.tmp 8, I p0.Off), ci 0, ci 500] (B x5), rp [(.tmp 6, B true), (.tmp 9, B x5), cb false] (B x5), mv 10 (B x5)] ?_ ?_
   ·exact ⟨afa rfl Try.underlying91 rfl rfl ti3 (by decide) rfl, ald rfl ti3 (by decide) rfl (nle rfl) rfl, apc (first := []) (cap := []) (vs := [I p0.Reading, I 0, I 1000000000]) rfl Qe1 (Qb6 N p0.Reading 0 1000000000 _ hf1) rfl rfl (nlc nll (nlc nll (nlc nll nl0))) nll rfl, asb hb3 (amv rfl), ag_ (afa rfl Try.underlying91 rfl rfl ti3 (by decide) rfl), ag_ (ald rfl ti3 (by decide) rfl (nle rfl) rfl), ag_ (apc (first := []) (cap := []) (vs := [I p0.Off, I 0, I 500]) rfl Qe1 (Qb6 N p0.Off 0 500 _ hf4) rfl rfl (nlc nll (nlc nll (nlc nll nl0))) nll rfl), apk rfl rfl, aas rfl, trivial⟩
   refine Qak ?_
   obtain rfl := osi h
   exact ⟨⟨[B x5], ⟨rot (by kernel_rfl), trivial⟩, rfl⟩, nll, Nat.le_refl _, fun n hn => absurd hn (Nat.not_lt_zero n)⟩
  ·replace h := Qaw hb3 h
   refine wrg [rb [(.tmp 1, .ref 0 2 0 0)] [(0, .own 2 [[I p0.Reading, I p0.Off]])] (.ref 0 2 0 0), rb [(.tmp 3, .ref 0 2 0 0)] [(0, .own 2 [[I p0.Reading, I p0.Off]])] (I p0.Reading), rp [fu 27, (.tmp 4, I p0.Reading), ci 0, ci 1000000000] (B x2), rp [(.tmp 5, B x2)] (B false), sk 6 (B false), sk 6 (B false), sk 6 (B false), rp [(.tmp 6, B false), (.tmp 9, (.lit undef)), cb false] (B false), mv 10 (B false)] ?_ ?_
   ·exact ⟨afa rfl Try.underlying91 rfl rfl ti3 (by decide) rfl, ald rfl ti3 (by decide) rfl (nle rfl) rfl, apc (first := []) (cap := []) (vs := [I p0.Reading, I 0, I 1000000000]) rfl Qe1 (Qb6 N p0.Reading 0 1000000000 _ hf1) rfl rfl (nlc nll (nlc nll (nlc nll nl0))) nll rfl, asb hb3 (amv rfl), trivial, trivial, trivial, apk rfl rfl, aas rfl, trivial⟩
   refine Qak ?_
   obtain rfl := osi h
   exact ⟨⟨[B false], ⟨rot (by kernel_rfl), trivial⟩, rfl⟩, nll, Nat.le_refl _, fun n hn => absurd hn (Nat.not_lt_zero n)⟩

def Qbv (N : Nat) (p0 : (List GNode)) (p1 : GMeters) (k2 : Unit → Option Bool) : Nat → Int → Option Bool
  | 0, _ => none
  | n5 + 1, y3 =>
    bif (decide (y3 < (p0.length : Int))) then
     (getI p1.Use y3).bind fun x7 =>
     (Qdt N x7).bind fun x12 =>
     bif (!x12) then
      some false
     else
      (getI p1.Has y3).bind fun x14 =>
      bif x14 then
       (getI p1.Flow y3).bind fun x19 =>
       (Qdt N x19).bind fun x24 =>
       bif (!x24) then
        some false
       else
        Qbv N p0 p1 k2 n5 (w64 (y3 + 1))
      else
       Qbv N p0 p1 k2 n5 (w64 (y3 + 1))
    else
     k2 ()
def Qdz (N : Nat) (p0 : (List GNode)) (p1 : GMeters) : Option Bool :=
  Qca (fun _ =>
    Qca (fun _ =>
      some true) fun k2 : Unit → Option Bool =>
    Qbv N p0 p1 k2 N 0) fun k1 : Unit → Option Bool =>
  bif ((p1.Use.length : Int) != (p0.length : Int)) then
   some false
  else
   bif ((p1.Flow.length : Int) != (p0.length : Int)) then
    some false
   else
    bif ((p1.Has.length : Int) != (p0.length : Int)) then
     some false
    else
     k1 ()
set_option maxRecDepth 100000 in
set_option maxHeartbeats 4000000 in
theorem Qhl (N : Nat) (p0 : (List GNode)) (p1 : GMeters) (r : Bool) (h : Qdz N p0 p1 = some r) : Spec Try.prog 52 [(.dat 4 (p0.map Qaa)), (.agg (Qfi p1))] [] (B r) [] := by
  refine Qaq Try.func52 rfl 0 (nle rfl) (fun X φ0 w0 hφ0 => ?_)
  unfold Qdz at h
  refine wrg [⟨[(.tmp 1, (.agg [(.dat 2 ((p1.Use : List GMeter).map Qab)), (.dat 2 ((p1.Flow : List GMeter).map Qab)), (.dat 1 ((p1.Has : List Bool).map Qae))]))], [(0, .unused)], .ref 0 3 0 0, [(0, (.own 3 [[(.dat 2 ((p1.Use : List GMeter).map Qab)), (.dat 2 ((p1.Flow : List GMeter).map Qab)), (.dat 1 ((p1.Has : List Bool).map Qae))]]))], false⟩, mc (.bool false)] ?_ ?_
  ·exact ⟨Qbu rfl (by rfl) rfl rfl, aas rfl, trivial⟩
  obtain ⟨k1, hk_k1, h⟩ := jko h
  refine wjn (τ := Unit) (fun t => k1 t = some r) (fun _ => ⟨mk 57 [(0, (.dat 4 ((p0 : List GNode).map Qaa))), (3, .ref 0 3 0 0)], [(.own 3 [[(.dat 2 ((p1.Use : List GMeter).map Qab)), (.dat 2 ((p1.Flow : List GMeter).map Qab)), (.dat 1 ((p1.Has : List Bool).map Qae))]])]⟩) (fun t h => ?_) ?_
  ·subst hk_k1
   obtain ⟨k2, hk_k2, h⟩ := jko h
   refine wjn (τ := Unit) (fun t => k2 t = some r) (fun _ => ⟨mk 57 [], []⟩) (fun t h => ?_) ?_
   ·subst hk_k2
    refine wrg [mc (.bool true)] ?_ ?_
    ·exact ⟨aas rfl, trivial⟩
    refine Qak ?_
    obtain rfl := osi h
    exact ⟨⟨[B true], ⟨rot (by kernel_rfl), trivial⟩, rfl⟩, nll, Nat.le_refl _, fun n hn => absurd hn (Nat.not_lt_zero n)⟩
   ·skip
    refine wrg [mc (.int .i64 0)] ?_ ?_
    ·exact ⟨aas rfl, trivial⟩
    refine Qan ?_
    refine wmr (mto (n := 57) (l' := [(0, (.dat 4 ((p0 : List GNode).map Qaa))), (3, .ref 0 3 0 0), (5, I 0)]) (own' := [(.own 3 [[(.dat 2 ((p1.Use : List GMeter).map Qab)), (.dat 2 ((p1.Flow : List GMeter).map Qab)), (.dat 1 ((p1.Has : List Bool).map Qae))]])]) [(0, (.dat 4 ((p0 : List GNode).map Qaa))), (3, .ref 0 3 0 0), (5, I 0)] [0] [(.own 3 [[(.dat 2 ((p1.Use : List GMeter).map Qab)), (.dat 2 ((p1.Flow : List GMeter).map Qab)), (.dat 1 ((p1.Has : List Bool).map Qae))]])] hφ0 (pc (.rn (.plain _ (nld Qag _))) (pc (.rn (rqr rfl)) (pc rwl pn))) (qc (spb (lc (.rn (.plain _ (nld Qal _))) (lc (.rn (.plain _ (nld Qal _))) (lc (.rn (.plain _ (nld Qbd _))) ln)))) qn)) ?_
    refine Qcc (τ := Int) (fun n t => Qbv N p0 p1 k2 n t = some r) (fun y3 => ⟨mk 57 [(0, (.dat 4 ((p0 : List GNode).map Qaa))), (3, .ref 0 3 0 0), (5, I y3)], [(.own 3 [[(.dat 2 ((p1.Use : List GMeter).map Qab)), (.dat 2 ((p1.Flow : List GMeter).map Qab)), (.dat 1 ((p1.Has : List Bool).map Qae))]])]⟩) (fun t h => by rw [Qbv] at h; cases h) (fun n5 ih y3 h => ?_) N (0) h
    rw [Qbv] at h
    skip
    refine wsq ?_
    refine wrg [mv 5 (I y3), mv 0 (.dat 4 ((p0 : List GNode).map Qaa)), rp [(.tmp 29, (.dat 4 ((p0 : List GNode).map Qaa)))] (I ((p0.length : Int))), rp [(.tmp 28, I y3), (.tmp 30, (I ((p0.length : Int))))] (B ((decide (y3 < (p0.length : Int)))))] ?_ ?_
    ·exact ⟨amv rfl, amv rfl, alm (c := Qaa) (l := p0) (aln rfl Try.underlying22 rfl), abn rfl rfl, trivial⟩
    rcases bft ((decide (y3 < (p0.length : Int)))) with hc6 | hc6
    ·replace h := Qav hc6 h
     refine wft hc6 (by kernel_rfl) ?_
     refine Qam ?_
     refine thn ?_
     refine wsq ?_
     refine Qan ?_
     obtain ⟨x7, hg8, h⟩ := bno h
     obtain ⟨hi9, hj10⟩ := gsm hg8
     obtain ⟨x12, hf11, h⟩ := bno h
     rcases bft ((!x12)) with hb13 | hb13
     ·replace h := Qav hb13 h
      refine wrg [rb [(.tmp 3, .ref 0 3 0 0)] [(0, (.own 3 [[(.dat 2 ((p1.Use : List GMeter).map Qab)), (.dat 2 ((p1.Flow : List GMeter).map Qab)), (.dat 1 ((p1.Has : List Bool).map Qae))]]))] (.ref 0 3 0 0), rb [(.tmp 34, .ref 0 3 0 0)] [(0, (.own 3 [[(.dat 2 ((p1.Use : List GMeter).map Qab)), (.dat 2 ((p1.Flow : List GMeter).map Qab)), (.dat 1 ((p1.Has : List Bool).map Qae))]]))] (.dat 2 ((p1.Use : List GMeter).map Qab)), mv 5 (I y3), rp [(.tmp 35, (.dat 2 ((p1.Use : List GMeter).map Qab))), (.tmp 36, I y3)] (.dptr (Qab (x7)) 0), rp [(.tmp 37, (.dptr (Qab (x7)) 0))] (.agg [I x7.Reading, I x7.Off]), rp [fu 48, (.tmp 38, (.agg [I x7.Reading, I x7.Off]))] (B x12), rp [(.tmp 39, B x12)] (B ((!x12))), rp [(.tmp 40, (B ((!x12))))] (B true), sk 41 (B true), sk 41 (B true), sk 41 (B true), sk 41 (B true), sk 41 (B true), sk 41 (B true), sk 47 (.lit undef), sk 47 (.lit undef), sk 47 (.lit undef), sk 47 (.lit undef), sk 47 (.lit undef), sk 47 (.lit undef), sk 47 (.lit undef), sk 41 (B true), rp [(.tmp 41, B true), cb true, (.tmp 55, (.lit undef))] (B true)] ?_ ?_
      ·exact ⟨afa rfl Try.underlying89 rfl rfl ti87 (by decide) rfl, ald rfl ti87 (by decide) rfl (nle rfl) rfl, amv rfl, aid rfl Try.underlying87 ti91 rfl rfl hi9 (mgt Qab hj10) rfl, ald_ rfl ti91 (by decide) (nle rfl) rfl, apc (first := []) (cap := []) (vs := [(.agg [I x7.Reading, I x7.Off])]) rfl enter48 (Qd6 N x7 _ hf11) rfl rfl (nlc (NLt.agg _ (nlc nll (nlc nll nl0))) nl0) nll rfl, Qap rfl, asb hb13 (amv rfl), trivial, trivial, trivial, trivial, trivial, trivial, trivial, trivial, trivial, trivial, trivial, trivial, trivial, trivial, apk rfl rfl, trivial⟩
      refine Qbq (by kernel_rfl) ?_
      refine wrg [mc (.bool false)] ?_ ?_
      ·exact ⟨aas rfl, trivial⟩
      refine Qak ?_
      refine Qa3 ?_
      refine Qao ?_
      refine Qao ?_
      refine Qa3 ?_
      refine Qao ?_
      obtain rfl := osi h
      exact ⟨⟨[B false], ⟨rot (by kernel_rfl), trivial⟩, rfl⟩, nll, Nat.le_refl _, fun n hn => absurd hn (Nat.not_lt_zero n)⟩
     ·replace h := Qaw hb13 h
      obtain ⟨x14, hg15, h⟩ := bno h
      obtain ⟨hi16, hj17⟩ := gsm hg15
      rcases bft (x14) with hb18 | hb18
      ·replace h := Qav hb18 h
       obtain ⟨x19, hg20, h⟩ := bno h
       obtain ⟨hi21, hj22⟩ := gsm hg20
       obtain ⟨x24, hf23, h⟩ := bno h
       refine wrg [rb [(.tmp 3, .ref 0 3 0 0)] [(0, (.own 3 [[(.dat 2 ((p1.Use : List GMeter).map Qab)), (.dat 2 ((p1.Flow : List GMeter).map Qab)), (.dat 1 ((p1.Has : List Bool).map Qae))]]))] (.ref 0 3 0 0), rb [(.tmp 34, .ref 0 3 0 0)] [(0, (.own 3 [[(.dat 2 ((p1.Use : List GMeter).map Qab)), (.dat 2 ((p1.Flow : List GMeter).map Qab)), (.dat 1 ((p1.Has : List Bool).map Qae))]]))] (.dat 2 ((p1.Use : List GMeter).map Qab)), mv 5 (I y3), rp [(.tmp 35, (.dat 2 ((p1.Use : List GMeter).map Qab))), (.tmp 36, I y3)] (.dptr (Qab (x7)) 0), rp [(.tmp 37, (.dptr (Qab (x7)) 0))] (.agg [I x7.Reading, I x7.Off]), rp [fu 48, (.tmp 38, (.agg [I x7.Reading, I x7.Off]))] (B x12), rp [(.tmp 39, B x12)] (B ((!x12))), rp [(.tmp 40, (B ((!x12))))] (B false), rb [(.tmp 41, B false), (.tmp 3, .ref 0 3 0 0)] [(0, (.own 3 [[(.dat 2 ((p1.Use : List GMeter).map Qab)), (.dat 2 ((p1.Flow : List GMeter).map Qab)), (.dat 1 ((p1.Has : List Bool).map Qae))]]))] (.ref 0 3 0 2), rb [(.tmp 41, B false), (.tmp 42, .ref 0 3 0 2)] [(0, (.own 3 [[(.dat 2 ((p1.Use : List GMeter).map Qab)), (.dat 2 ((p1.Flow : List GMeter).map Qab)), (.dat 1 ((p1.Has : List Bool).map Qae))]]))] (.dat 1 ((p1.Has : List Bool).map Qae)), rp [(.tmp 41, B false), (.tmp 5, I y3)] (I y3), rp [(.tmp 41, B false), (.tmp 43, (.dat 1 ((p1.Has : List Bool).map Qae))), (.tmp 44, I y3)] (.dptr (Qae (x14)) 0), rp [(.tmp 41, B false), (.tmp 45, (.dptr (Qae (x14)) 0))] (B x14), rp [(.tmp 41, B false), (.tmp 46, B x14)] (B true), rb [(.tmp 47, B true), (.tmp 3, .ref 0 3 0 0)] [(0, (.own 3 [[(.dat 2 ((p1.Use : List GMeter).map Qab)), (.dat 2 ((p1.Flow : List GMeter).map Qab)), (.dat 1 ((p1.Has : List Bool).map Qae))]]))] (.ref 0 3 0 1), rb [(.tmp 47, B true), (.tmp 48, .ref 0 3 0 1)] [(0, (.own 3 [[(.dat 2 ((p1.Use : List GMeter).map Qab)), (.dat 2 ((p1.Flow : List GMeter).map Qab)), (.dat 1 ((p1.Has : List Bool).map Qae))]]))] (.dat 2 ((p1.Flow : List GMeter).map Qab)), rp [(.tmp 47, B true), (.tmp 5, I y3)] (I y3), rp [(.tmp 47, B true), (.tmp 49, (.dat 2 ((p1.Flow : List GMeter).map Qab))), (.tmp 50, I y3)] (.dptr (Qab (x19)) 0), rp [(.tmp 47, B true), (.tmp 51, (.dptr (Qab (x19)) 0))] (.agg [I x19.Reading, I x19.Off]), rp [(.tmp 47, B true), fu 48, (.tmp 52, (.agg [I x19.Reading, I x19.Off]))] (B x24), rp [(.tmp 47, B true), (.tmp 53, B x24)] (B ((!x24))), rp [(.tmp 41, B false), (.tmp 47, B true), (.tmp 54, (B ((!x24)))), cb false] (B ((!x24))), rp [(.tmp 41, B false), cb true, (.tmp 55, (B ((!x24))))] (B ((!x24)))] ?_ ?_
       ·exact ⟨afa rfl Try.underlying89 rfl rfl ti87 (by decide) rfl, ald rfl ti87 (by decide) rfl (nle rfl) rfl, amv rfl, aid rfl Try.underlying87 ti91 rfl rfl hi9 (mgt Qab hj10) rfl, ald_ rfl ti91 (by decide) (nle rfl) rfl, apc (first := []) (cap := []) (vs := [(.agg [I x7.Reading, I x7.Off])]) rfl enter48 (Qd6 N x7 _ hf11) rfl rfl (nlc (NLt.agg _ (nlc nll (nlc nll nl0))) nl0) nll rfl, Qap rfl, asb hb13 (amv rfl), ag_ (afa rfl Try.underlying89 rfl rfl ti26 (by decide) rfl), ag_ (ald rfl ti26 (by decide) rfl (nle rfl) rfl), ag_ (amv rfl), ag_ (aid rfl Try.underlying26 ti4 rfl rfl hi16 (mgt Qae hj17) rfl), ag_ (ald_ rfl ti4 (by decide) (nle rfl) rfl), asb hb18 (ag_ (amv rfl)), ag_ (afa rfl Try.underlying89 rfl rfl ti87 (by decide) rfl), ag_ (ald rfl ti87 (by decide) rfl (nle rfl) rfl), ag_ (amv rfl), ag_ (aid rfl Try.underlying87 ti91 rfl rfl hi21 (mgt Qab hj22) rfl), ag_ (ald_ rfl ti91 (by decide) (nle rfl) rfl), ag_ (apc (first := []) (cap := []) (vs := [(.agg [I x19.Reading, I x19.Off])]) rfl enter48 (Qd6 N x19 _ hf23) rfl rfl (nlc (NLt.agg _ (nlc nll (nlc nll nl0))) nl0) nll rfl), ag_ (Qap rfl), ag_ (apk rfl rfl), apk rfl rfl, trivial⟩
       rcases bft ((!x24)) with hc25 | hc25
       ·replace h := Qav hc25 h
        refine wft hc25 (by kernel_rfl) ?_
        refine wrg [mc (.bool false)] ?_ ?_
        ·exact ⟨aas rfl, trivial⟩
        refine Qak ?_
        refine Qa3 ?_
        refine Qao ?_
        refine Qao ?_
        refine Qa3 ?_
        refine Qao ?_
        obtain rfl := osi h
        exact ⟨⟨[B false], ⟨rot (by kernel_rfl), trivial⟩, rfl⟩, nll, Nat.le_refl _, fun n hn => absurd hn (Nat.not_lt_zero n)⟩
       ·replace h := Qaw hc25 h
        refine wfn hc25 (by kernel_rfl) ?_
        refine Qam ?_
        refine bln ?_
        refine thn ?_
        refine Qar [mv 5 (I y3), rp [(.tmp 32, I y3), ci 1] (I (w64 (y3 + 1))), mv 33 (I (w64 (y3 + 1)))] ?_ ?_
        ·exact ⟨amv rfl, abn rfl rfl, aas rfl, trivial⟩
        refine thn ?_
        exact arm (mto (n := 57) [(0, (.dat 4 ((p0 : List GNode).map Qaa))), (3, .ref 0 3 0 0), (5, (I (w64 (y3 + 1))))] [0] [(.own 3 [[(.dat 2 ((p1.Use : List GMeter).map Qab)), (.dat 2 ((p1.Flow : List GMeter).map Qab)), (.dat 1 ((p1.Has : List Bool).map Qae))]])] hφ0 (pc (.rn (.plain _ (nld Qag _))) (pc (.rn (rqr rfl)) (pc rwl pn))) (qc (spb (lc (.rn (.plain _ (nld Qal _))) (lc (.rn (.plain _ (nld Qal _))) (lc (.rn (.plain _ (nld Qbd _))) ln)))) qn)) (ih (w64 (y3 + 1)) h)
      ·replace h := Qaw hb18 h
       refine wrg [rb [(.tmp 3, .ref 0 3 0 0)] [(0, (.own 3 [[(.dat 2 ((p1.Use : List GMeter).map Qab)), (.dat 2 ((p1.Flow : List GMeter).map Qab)), (.dat 1 ((p1.Has : List Bool).map Qae))]]))] (.ref 0 3 0 0), rb [(.tmp 34, .ref 0 3 0 0)] [(0, (.own 3 [[(.dat 2 ((p1.Use : List GMeter).map Qab)), (.dat 2 ((p1.Flow : List GMeter).map Qab)), (.dat 1 ((p1.Has : List Bool).map Qae))]]))] (.dat 2 ((p1.Use : List GMeter).map Qab)), mv 5 (I y3), rp [(.tmp 35, (.dat 2 ((p1.Use : List GMeter).map Qab))), (.tmp 36, I y3)] (.dptr (Qab (x7)) 0), rp [(.tmp 37, (.dptr (Qab (x7)) 0))] (.agg [I x7.Reading, I x7.Off]), rp [fu 48, (.tmp 38, (.agg [I x7.Reading, I x7.Off]))] (B x12), rp [(.tmp 39, B x12)] (B ((!x12))), rp [(.tmp 40, (B ((!x12))))] (B false), rb [(.tmp 41, B false), (.tmp 3, .ref 0 3 0 0)] [(0, (.own 3 [[(.dat 2 ((p1.Use : List GMeter).map Qab)), (.dat 2 ((p1.Flow : List GMeter).map Qab)), (.dat 1 ((p1.Has : List Bool).map Qae))]]))] (.ref 0 3 0 2), rb [(.tmp 41, B false), (.tmp 42, .ref 0 3 0 2)] [(0, (.own 3 [[(.dat 2 ((p1.Use : List GMeter).map Qab)), (.dat 2 ((p1.Flow : List GMeter).map Qab)), (.dat 1 ((p1.Has : List Bool).map Qae))]]))] (.dat 1 ((p1.Has : List Bool).map Qae)), rp [(.tmp 41, B false), (.tmp 5, I y3)] (I y3), rp [(.tmp 41, B false), (.tmp 43, (.dat 1 ((p1.Has : List Bool).map Qae))), (.tmp 44, I y3)] (.dptr (Qae (x14)) 0), rp [(.tmp 41, B false), (.tmp 45, (.dptr (Qae (x14)) 0))] (B x14), rp [(.tmp 41, B false), (.tmp 46, B x14)] (B false), sk 47 (B false), sk 47 (B false), sk 47 (B false), sk 47 (B false), sk 47 (B false), sk 47 (B false), sk 47 (B false), rp [(.tmp 41, B false), (.tmp 47, B false), (.tmp 54, (.lit undef)), cb false] (B false), rp [(.tmp 41, B false), cb true, (.tmp 55, B false)] (B false)] ?_ ?_
       ·exact ⟨afa rfl Try.underlying89 rfl rfl ti87 (by decide) rfl, ald rfl ti87 (by decide) rfl (nle rfl) rfl, amv rfl, aid rfl Try.underlying87 ti91 rfl rfl hi9 (mgt Qab hj10) rfl, ald_ rfl ti91 (by decide) (nle rfl) rfl, apc (first := []) (cap := []) (vs := [(.agg [I x7.Reading, I x7.Off])]) rfl enter48 (Qd6 N x7 _ hf11) rfl rfl (nlc (NLt.agg _ (nlc nll (nlc nll nl0))) nl0) nll rfl, Qap rfl, asb hb13 (amv rfl), ag_ (afa rfl Try.underlying89 rfl rfl ti26 (by decide) rfl), ag_ (ald rfl ti26 (by decide) rfl (nle rfl) rfl), ag_ (amv rfl), ag_ (aid rfl Try.underlying26 ti4 rfl rfl hi16 (mgt Qae hj17) rfl), ag_ (ald_ rfl ti4 (by decide) (nle rfl) rfl), asb hb18 (ag_ (amv rfl)), trivial, trivial, trivial, trivial, trivial, trivial, trivial, ag_ (apk rfl rfl), apk rfl rfl, trivial⟩
       refine Qey (by kernel_rfl) ?_
       refine Qam ?_
       refine bln ?_
       refine thn ?_
       refine Qar [mv 5 (I y3), rp [(.tmp 32, I y3), ci 1] (I (w64 (y3 + 1))), mv 33 (I (w64 (y3 + 1)))] ?_ ?_
       ·exact ⟨amv rfl, abn rfl rfl, aas rfl, trivial⟩
       refine thn ?_
       exact arm (mto (n := 57) [(0, (.dat 4 ((p0 : List GNode).map Qaa))), (3, .ref 0 3 0 0), (5, (I (w64 (y3 + 1))))] [0] [(.own 3 [[(.dat 2 ((p1.Use : List GMeter).map Qab)), (.dat 2 ((p1.Flow : List GMeter).map Qab)), (.dat 1 ((p1.Has : List Bool).map Qae))]])] hφ0 (pc (.rn (.plain _ (nld Qag _))) (pc (.rn (rqr rfl)) (pc rwl pn))) (qc (spb (lc (.rn (.plain _ (nld Qal _))) (lc (.rn (.plain _ (nld Qal _))) (lc (.rn (.plain _ (nld Qbd _))) ln)))) qn)) (ih (w64 (y3 + 1)) h)
    ·replace h := Qaw hc6 h
     refine wfn hc6 (by kernel_rfl) ?_
     refine Qbf ?_
     refine Qau ?_
     refine Qau ?_
     refine Qbe rfl ?_
     refine thn ?_
     exact ⟨(), h, (mto (n := 57) [] [] [] hφ0 pn qn)⟩
  ·skip
   rcases bft (((p1.Use.length : Int) != (p0.length : Int))) with hb26 | hb26
   ·replace h := Qav hb26 h
    refine wrg [rb [(.tmp 3, .ref 0 3 0 0)] [(0, (.own 3 [[(.dat 2 ((p1.Use : List GMeter).map Qab)), (.dat 2 ((p1.Flow : List GMeter).map Qab)), (.dat 1 ((p1.Has : List Bool).map Qae))]]))] (.ref 0 3 0 0), rb [(.tmp 6, .ref 0 3 0 0)] [(0, (.own 3 [[(.dat 2 ((p1.Use : List GMeter).map Qab)), (.dat 2 ((p1.Flow : List GMeter).map Qab)), (.dat 1 ((p1.Has : List Bool).map Qae))]]))] (.dat 2 ((p1.Use : List GMeter).map Qab)), rp [(.tmp 7, (.dat 2 ((p1.Use : List GMeter).map Qab)))] (I ((p1.Use.length : Int))), mv 0 (.dat 4 ((p0 : List GNode).map Qaa)), rp [(.tmp 9, (.dat 4 ((p0 : List GNode).map Qaa)))] (I ((p0.length : Int))), rp [(.tmp 8, (I ((p1.Use.length : Int)))), (.tmp 10, (I ((p0.length : Int))))] (B (((p1.Use.length : Int) != (p0.length : Int)))), rp [(.tmp 11, (B (((p1.Use.length : Int) != (p0.length : Int)))))] (B true), sk 12 (B true), sk 12 (B true), sk 12 (B true), sk 12 (B true), sk 12 (B true), sk 12 (B true), rp [(.tmp 12, B true), cb true, (.tmp 18, (.lit undef))] (B true), mv 19 (B true), sk 20 (B true), sk 20 (B true), sk 20 (B true), sk 20 (B true), sk 20 (B true), sk 20 (B true), rp [(.tmp 20, B true), cb true, (.tmp 26, (.lit undef))] (B true)] ?_ ?_
    ·exact ⟨afa rfl Try.underlying89 rfl rfl ti87 (by decide) rfl, ald rfl ti87 (by decide) rfl (nle rfl) rfl, alm (c := Qab) (l := p1.Use) (aln rfl Try.underlying87 rfl), amv rfl, alm (c := Qaa) (l := p0) (aln rfl Try.underlying22 rfl), abn rfl rfl, asb hb26 (amv rfl), trivial, trivial, trivial, trivial, trivial, trivial, apk rfl rfl, amv rfl, trivial, trivial, trivial, trivial, trivial, trivial, apk rfl rfl, trivial⟩
    refine Qbq (by kernel_rfl) ?_
    refine wrg [mc (.bool false)] ?_ ?_
    ·exact ⟨aas rfl, trivial⟩
    refine Qak ?_
    refine Qao ?_
    obtain rfl := osi h
    exact ⟨⟨[B false], ⟨rot (by kernel_rfl), trivial⟩, rfl⟩, nll, Nat.le_refl _, fun n hn => absurd hn (Nat.not_lt_zero n)⟩
   ·replace h := Qaw hb26 h
    rcases bft (((p1.Flow.length : Int) != (p0.length : Int))) with hb27 | hb27
    ·replace h := Qav hb27 h
     refine wrg [rb [(.tmp 3, .ref 0 3 0 0)] [(0, (.own 3 [[(.dat 2 ((p1.Use : List GMeter).map Qab)), (.dat 2 ((p1.Flow : List GMeter).map Qab)), (.dat 1 ((p1.Has : List Bool).map Qae))]]))] (.ref 0 3 0 0), rb [(.tmp 6, .ref 0 3 0 0)] [(0, (.own 3 [[(.dat 2 ((p1.Use : List GMeter).map Qab)), (.dat 2 ((p1.Flow : List GMeter).map Qab)), (.dat 1 ((p1.Has : List Bool).map Qae))]]))] (.dat 2 ((p1.Use : List GMeter).map Qab)), rp [(.tmp 7, (.dat 2 ((p1.Use : List GMeter).map Qab)))] (I ((p1.Use.length : Int))), mv 0 (.dat 4 ((p0 : List GNode).map Qaa)), rp [(.tmp 9, (.dat 4 ((p0 : List GNode).map Qaa)))] (I ((p0.length : Int))), rp [(.tmp 8, (I ((p1.Use.length : Int)))), (.tmp 10, (I ((p0.length : Int))))] (B (((p1.Use.length : Int) != (p0.length : Int)))), rp [(.tmp 11, (B (((p1.Use.length : Int) != (p0.length : Int)))))] (B false), rb [(.tmp 12, B false), (.tmp 3, .ref 0 3 0 0)] [(0, (.own 3 [[(.dat 2 ((p1.Use : List GMeter).map Qab)), (.dat 2 ((p1.Flow : List GMeter).map Qab)), (.dat 1 ((p1.Has : List Bool).map Qae))]]))] (.ref 0 3 0 1), rb [(.tmp 12, B false), (.tmp 13, .ref 0 3 0 1)] [(0, (.own 3 [[(.dat 2 ((p1.Use : List GMeter).map Qab)), (.dat 2 ((p1.Flow : List GMeter).map Qab)), (.dat 1 ((p1.Has : List Bool).map Qae))]]))] (.dat 2 ((p1.Flow : List GMeter).map Qab)), rp [(.tmp 12, B false), (.tmp 14, (.dat 2 ((p1.Flow : List GMeter).map Qab)))] (I ((p1.Flow.length : Int))), rp [(.tmp 12, B false), (.tmp 0, (.dat 4 ((p0 : List GNode).map Qaa)))] (.dat 4 ((p0 : List GNode).map Qaa)), rp [(.tmp 12, B false), (.tmp 16, (.dat 4 ((p0 : List GNode).map Qaa)))] (I ((p0.length : Int))), rp [(.tmp 12, B false), (.tmp 15, (I ((p1.Flow.length : Int)))), (.tmp 17, (I ((p0.length : Int))))] (B (((p1.Flow.length : Int) != (p0.length : Int)))), rp [(.tmp 12, B false), cb true, (.tmp 18, (B (((p1.Flow.length : Int) != (p0.length : Int)))))] (B (((p1.Flow.length : Int) != (p0.length : Int)))), rp [(.tmp 19, (B (((p1.Flow.length : Int) != (p0.length : Int)))))] (B true), sk 20 (B true), sk 20 (B true), sk 20 (B true), sk 20 (B true), sk 20 (B true), sk 20 (B true), rp [(.tmp 20, B true), cb true, (.tmp 26, (.lit undef))] (B true)] ?_ ?_
     ·exact ⟨afa rfl Try.underlying89 rfl rfl ti87 (by decide) rfl, ald rfl ti87 (by decide) rfl (nle rfl) rfl, alm (c := Qab) (l := p1.Use) (aln rfl Try.underlying87 rfl), amv rfl, alm (c := Qaa) (l := p0) (aln rfl Try.underlying22 rfl), abn rfl rfl, asb hb26 (amv rfl), ag_ (afa rfl Try.underlying89 rfl rfl ti87 (by decide) rfl), ag_ (ald rfl ti87 (by decide) rfl (nle rfl) rfl), ag_ (alm (c := Qab) (l := p1.Flow) (aln rfl Try.underlying87 rfl)), ag_ (amv rfl), ag_ (alm (c := Qaa) (l := p0) (aln rfl Try.underlying22 rfl)), ag_ (abn rfl rfl), apk rfl rfl, asb hb27 (amv rfl), trivial, trivial, trivial, trivial, trivial, trivial, apk rfl rfl, trivial⟩
     refine Qbq (by kernel_rfl) ?_
     refine wrg [mc (.bool false)] ?_ ?_
     ·exact ⟨aas rfl, trivial⟩
     refine Qak ?_
     refine Qao ?_
     obtain rfl := osi h
     exact ⟨⟨[B false], ⟨rot (by kernel_rfl), trivial⟩, rfl⟩, nll, Nat.le_refl _, fun n hn => absurd hn (Nat.not_lt_zero n)⟩
    ·replace h := Qaw hb27 h
     refine wrg [rb [(.tmp 3, .ref 0 3 0 0)] [(0, (.own 3 [[(.dat 2 ((p1.Use : List GMeter).map Qab)), (.dat 2 ((p1.Flow : List GMeter).map Qab)), (.dat 1 ((p1.Has : List Bool).map Qae))]]))] (.ref 0 3 0 0), rb [(.tmp 6, .ref 0 3 0 0)] [(0, (.own 3 [[(.dat 2 ((p1.Use : List GMeter).map Qab)), (.dat 2 ((p1.Flow : List GMeter).map Qab)), (.dat 1 ((p1.Has : List Bool).map Qae))]]))] (.dat 2 ((p1.Use : List GMeter).map Qab)), rp [(.tmp 7, (.dat 2 ((p1.Use : List GMeter).map Qab)))] (I ((p1.Use.length : Int))), mv 0 (.dat 4 ((p0 : List GNode).map Qaa)), rp [(.tmp 9, (.dat 4 ((p0 : List GNode).map Qaa)))] (I ((p0.length : Int))), rp [(.tmp 8, (I ((p1.Use.length : Int)))), (.tmp 10, (I ((p0.length : Int))))] (B (((p1.Use.length : Int) != (p0.length : Int)))), rp [(.tmp 11, (B (((p1.Use.length : Int) != (p0.length : Int)))))] (B false), rb [(.tmp 12, B false), (.tmp 3, .ref 0 3 0 0)] [(0, (.own 3 [[(.dat 2 ((p1.Use : List GMeter).map Qab)), (.dat 2 ((p1.Flow : List GMeter).map Qab)), (.dat 1 ((p1.Has : List Bool).map Qae))]]))] (.ref 0 3 0 1), rb [(.tmp 12, B false), (.tmp 13, .ref 0 3 0 1)] [(0, (.own 3 [[(.dat 2 ((p1.Use : List GMeter).map Qab)), (.dat 2 ((p1.Flow : List GMeter).map Qab)), (.dat 1 ((p1.Has : List Bool).map Qae))]]))] (.dat 2 ((p1.Flow : List GMeter).map Qab)), rp [(.tmp 12, B false), (.tmp 14, (.dat 2 ((p1.Flow : List GMeter).map Qab)))] (I ((p1.Flow.length : Int))), rp [(.tmp 12, B false), (.tmp 0, (.dat 4 ((p0 : List GNode).map Qaa)))] (.dat 4 ((p0 : List GNode).map Qaa)), rp [(.tmp 12, B false), (.tmp 16, (.dat 4 ((p0 : List GNode).map Qaa)))] (I ((p0.length : Int))), rp [(.tmp 12, B false), (.tmp 15, (I ((p1.Flow.length : Int)))), (.tmp 17, (I ((p0.length : Int))))] (B (((p1.Flow.length : Int) != (p0.length : Int)))), rp [(.tmp 12, B false), cb true, (.tmp 18, (B (((p1.Flow.length : Int) != (p0.length : Int)))))] (B (((p1.Flow.length : Int) != (p0.length : Int)))), rp [(.tmp 19, (B (((p1.Flow.length : Int) != (p0.length : Int)))))] (B false), rb [(.tmp 20, B false), (.tmp 3, .ref 0 3 0 0)] [(0, (.own 3 [[(.dat 2 ((p1.Use : List GMeter).map Qab)), (.dat 2 ((p1.Flow : List GMeter).map Qab)), (.dat 1 ((p1.Has : List Bool).map Qae))]]))] (.ref 0 3 0 2), rb [(.tmp 20, B false), (.tmp 21, .ref 0 3 0 2)] [(0, (.own 3 [[(.dat 2 ((p1.Use : List GMeter).map Qab)), (.dat 2 ((p1.Flow : List GMeter).map Qab)), (.dat 1 ((p1.Has : List Bool).map Qae))]]))] (.dat 1 ((p1.Has : List Bool).map Qae)), rp [(.tmp 20, B false), (.tmp 22, (.dat 1 ((p1.Has : List Bool).map Qae)))] (I ((p1.Has.length : Int))), rp [(.tmp 20, B false), (.tmp 0, (.dat 4 ((p0 : List GNode).map Qaa)))] (.dat 4 ((p0 : List GNode).map Qaa)), rp [(.tmp 20, B false), (.tmp 24, (.dat 4 ((p0 : List GNode).map Qaa)))] (I ((p0.length : Int))), rp [(.tmp 20, B false), (.tmp 23, (I ((p1.Has.length : Int)))), (.tmp 25, (I ((p0.length : Int))))] (B (((p1.Has.length : Int) != (p0.length : Int)))), rp [(.tmp 20, B false), cb true, (.tmp 26, (B (((p1.Has.length : Int) != (p0.length : Int)))))] (B (((p1.Has.length : Int) != (p0.length : Int))))] ?_ ?_
     ·exact ⟨afa rfl Try.underlying89 rfl rfl ti87 (by decide) rfl, ald rfl ti87 (by decide) rfl (nle rfl) rfl, alm (c := Qab) (l := p1.Use) (aln rfl Try.underlying87 rfl), amv rfl, alm (c := Qaa) (l := p0) (aln rfl Try.underlying22 rfl), abn rfl rfl, asb hb26 (amv rfl), ag_ (afa rfl Try.underlying89 rfl rfl ti87 (by decide) rfl), ag_ (ald rfl ti87 (by decide) rfl (nle rfl) rfl), ag_ (alm (c := Qab) (l := p1.Flow) (aln rfl Try.underlying87 rfl)), ag_ (amv rfl), ag_ (alm (c := Qaa) (l := p0) (aln rfl Try.underlying22 rfl)), ag_ (abn rfl rfl), apk rfl rfl, asb hb27 (amv rfl), ag_ (afa rfl Try.underlying89 rfl rfl ti26 (by decide) rfl), ag_ (ald rfl ti26 (by decide) rfl (nle rfl) rfl), ag_ (alm (c := Qae) (l := p1.Has) (aln rfl Try.underlying26 rfl)), ag_ (amv rfl), ag_ (alm (c := Qaa) (l := p0) (aln rfl Try.underlying22 rfl)), ag_ (abn rfl rfl), apk rfl rfl, trivial⟩
     rcases bft (((p1.Has.length : Int) != (p0.length : Int))) with hc28 | hc28
     ·replace h := Qav hc28 h
      refine wft hc28 (by kernel_rfl) ?_
      refine wrg [mc (.bool false)] ?_ ?_
      ·exact ⟨aas rfl, trivial⟩
      refine Qak ?_
      refine Qao ?_
      obtain rfl := osi h
      exact ⟨⟨[B false], ⟨rot (by kernel_rfl), trivial⟩, rfl⟩, nll, Nat.le_refl _, fun n hn => absurd hn (Nat.not_lt_zero n)⟩
     ·replace h := Qaw hc28 h
      refine wfn hc28 (by kernel_rfl) ?_
      refine Qam ?_
      refine thn ?_
      exact ⟨(), h, (mto (n := 57) [(0, (.dat 4 ((p0 : List GNode).map Qaa))), (3, .ref 0 3 0 0)] [0] [(.own 3 [[(.dat 2 ((p1.Use : List GMeter).map Qab)), (.dat 2 ((p1.Flow : List GMeter).map Qab)), (.dat 1 ((p1.Has : List Bool).map Qae))]])] hφ0 (pc (.rn (.plain _ (nld Qag _))) (pc (.rn (rqr rfl)) pn)) (qc (spb (lc (.rn (.plain _ (nld Qal _))) (lc (.rn (.plain _ (nld Qal _))) (lc (.rn (.plain _ (nld Qbd _))) ln)))) qn))⟩

def Qea (_N : Nat) (p0 : GMeter) : Option GRange :=
  chk ((w64 (1000 + p0.Off)) != 0) <|
  (some (w64 ((w64 (1000 * p0.Reading)).tdiv (w64 (1000 + p0.Off))))).bind fun x2 =>
  Qca (fun y4 =>
    chk ((w64 (1000 - p0.Off)) != 0) <|
    some (⟨y4, w64 ((w64 (1000 * p0.Reading)).tdiv (w64 (1000 - p0.Off)))⟩ : GRange)) fun k5 : Int → Option GRange =>
  bif (decide ((w64 (x2 * (w64 (1000 + p0.Off)))) < (w64 (1000 * p0.Reading)))) then
   k5 (w64 (x2 + 1))
  else
   k5 (x2)
set_option maxRecDepth 100000 in
set_option maxHeartbeats 4000000 in
theorem Qfb (N : Nat) (p0 : GMeter) (r : GRange) (h : Qea N p0 = some r) : Spec Try.prog 49 [(.agg (Qab p0))] [] (.agg (Qai r)) [] := by
  refine Qaq Try.func49 rfl 0 (nle rfl) (fun X φ0 w0 hφ0 => ?_)
  unfold Qea at h
  refine wrg [⟨[(.tmp 0, (.agg [I p0.Reading, I p0.Off]))], [(0, .unused)], .ref 0 2 0 0, [(0, .own 2 [[I p0.Reading, I p0.Off]])], false⟩, ⟨[], [(1, .unused)], .ref 1 2 0 0, [(1, .own 2 [[I 0, I 0]])], false⟩] ?_ ?_
  ·exact ⟨Qbu rfl (by rfl) rfl rfl, Qaz rfl tz98 rfl, trivial⟩
  obtain ⟨hz1, h⟩ := cko h
  obtain ⟨x2, hl3, h⟩ := bno h
  refine wrg [rb [(.tmp 1, .ref 0 2 0 0)] [(0, .own 2 [[I p0.Reading, I p0.Off]])] (.ref 0 2 0 0), rb [(.tmp 4, .ref 0 2 0 0)] [(0, .own 2 [[I p0.Reading, I p0.Off]])] (I p0.Reading), rp [ci 1000, (.tmp 5, I p0.Reading)] (I (w64 (1000 * p0.Reading))), rb [(.tmp 1, .ref 0 2 0 0)] [(0, .own 2 [[I p0.Reading, I p0.Off]])] (.ref 0 2 0 1), rb [(.tmp 7, .ref 0 2 0 1)] [(0, .own 2 [[I p0.Reading, I p0.Off]])] (I p0.Off), rp [ci 1000, (.tmp 8, I p0.Off)] (I (w64 (1000 + p0.Off))), rp [(.tmp 6, (I (w64 (1000 * p0.Reading)))), (.tmp 9, (I (w64 (1000 + p0.Off))))] (I (w64 ((w64 (1000 * p0.Reading)).tdiv (w64 (1000 + p0.Off))))), rp [(.tmp 10, (I (w64 ((w64 (1000 * p0.Reading)).tdiv (w64 (1000 + p0.Off))))))] (I x2)] ?_ ?_
  ·exact ⟨afa rfl Try.underlying91 rfl rfl ti3 (by decide) rfl, ald rfl ti3 (by decide) rfl (nle rfl) rfl, abn rfl rfl, afa rfl Try.underlying91 rfl rfl ti3 (by decide) rfl, ald rfl ti3 (by decide) rfl (nle rfl) rfl, abn rfl rfl, Qix rfl (bne_out hz1), Qe2 hl3 (aas rfl), trivial⟩
  obtain ⟨k5, hk_k5, h⟩ := jko h
  refine wjn (τ := Int) (fun t => k5 t = some r) (fun y4 => ⟨mk 31 [(1, .ref 0 2 0 0), (2, .ref 1 2 0 0), (3, I y4)], [(.own 2 [[I p0.Reading, I p0.Off]]), (.own 2 [[I 0, I 0]])]⟩) (fun y4 h => ?_) ?_
  ·subst hk_k5
   obtain ⟨hz6, h⟩ := cko h
   refine wrg [mv 3 (I y4), rb [(.tmp 1, .ref 0 2 0 0)] [(0, .own 2 [[I p0.Reading, I p0.Off]])] (.ref 0 2 0 0), rb [(.tmp 23, .ref 0 2 0 0)] [(0, .own 2 [[I p0.Reading, I p0.Off]])] (I p0.Reading), rp [ci 1000, (.tmp 24, I p0.Reading)] (I (w64 (1000 * p0.Reading))), rb [(.tmp 1, .ref 0 2 0 0)] [(0, .own 2 [[I p0.Reading, I p0.Off]])] (.ref 0 2 0 1), rb [(.tmp 26, .ref 0 2 0 1)] [(0, .own 2 [[I p0.Reading, I p0.Off]])] (I p0.Off), rp [ci 1000, (.tmp 27, I p0.Off)] (I (w64 (1000 - p0.Off))), rp [(.tmp 25, (I (w64 (1000 * p0.Reading)))), (.tmp 28, (I (w64 (1000 - p0.Off))))] (I (w64 ((w64 (1000 * p0.Reading)).tdiv (w64 (1000 - p0.Off))))), rp [(.tmp 22, I y4), (.tmp 29, (I (w64 ((w64 (1000 * p0.Reading)).tdiv (w64 (1000 - p0.Off))))))] (.agg [I y4, (I (w64 ((w64 (1000 * p0.Reading)).tdiv (w64 (1000 - p0.Off)))))]), ⟨[(.tmp 2, .ref 1 2 0 0), (.tmp 30, (.agg [I y4, (I (w64 ((w64 (1000 * p0.Reading)).tdiv (w64 (1000 - p0.Off)))))]))], [(1, .own 2 [[I 0, I 0]])], .any, [(1, (.own 2 [[I y4, (I (w64 ((w64 (1000 * p0.Reading)).tdiv (w64 (1000 - p0.Off)))))]]))], false⟩] ?_ ?_
   ·exact ⟨amv rfl, afa rfl Try.underlying91 rfl rfl ti3 (by decide) rfl, ald rfl ti3 (by decide) rfl (nle rfl) rfl, abn rfl rfl, afa rfl Try.underlying91 rfl rfl ti3 (by decide) rfl, ald rfl ti3 (by decide) rfl (nle rfl) rfl, abn rfl rfl, Qix rfl (bne_out hz6), Qa9 (vs := [I y4, (I (w64 ((w64 (1000 * p0.Reading)).tdiv (w64 (1000 - p0.Off)))))]) rfl ts98 tz98 rfl (by rfl) rfl, ast rfl ti98 (by rfl) rfl (nle rfl) rfl, trivial⟩
   refine Qak ?_
   obtain rfl := osi h
   exact ⟨⟨[(.agg [I y4, (I (w64 ((w64 (1000 * p0.Reading)).tdiv (w64 (1000 - p0.Off)))))])], ⟨Qds (n := 1) (m := 2) (j := 0) (i := 0) (xs := [[I y4, (I (w64 ((w64 (1000 * p0.Reading)).tdiv (w64 (1000 - p0.Off)))))]]) (by kernel_rfl) (by kernel_rfl) ti98 (by decide) rfl (nle rfl) rfl, trivial⟩, rfl⟩, (NLt.agg _ (nlc nll (nlc nll nl0))), Nat.le_refl _, fun n hn => absurd hn (Nat.not_lt_zero n)⟩
  ·skip
   refine wrg [mv 3 (I x2), rb [(.tmp 1, .ref 0 2 0 0)] [(0, .own 2 [[I p0.Reading, I p0.Off]])] (.ref 0 2 0 1), rb [(.tmp 12, .ref 0 2 0 1)] [(0, .own 2 [[I p0.Reading, I p0.Off]])] (I p0.Off), rp [ci 1000, (.tmp 13, I p0.Off)] (I (w64 (1000 + p0.Off))), rp [(.tmp 11, I x2), (.tmp 14, (I (w64 (1000 + p0.Off))))] (I (w64 (x2 * (w64 (1000 + p0.Off))))), rb [(.tmp 1, .ref 0 2 0 0)] [(0, .own 2 [[I p0.Reading, I p0.Off]])] (.ref 0 2 0 0), rb [(.tmp 16, .ref 0 2 0 0)] [(0, .own 2 [[I p0.Reading, I p0.Off]])] (I p0.Reading), rp [ci 1000, (.tmp 17, I p0.Reading)] (I (w64 (1000 * p0.Reading))), rp [(.tmp 15, (I (w64 (x2 * (w64 (1000 + p0.Off)))))), (.tmp 18, (I (w64 (1000 * p0.Reading))))] (B ((decide ((w64 (x2 * (w64 (1000 + p0.Off)))) < (w64 (1000 * p0.Reading))))))] ?_ ?_
   ·exact ⟨amv rfl, afa rfl Try.underlying91 rfl rfl ti3 (by decide) rfl, ald rfl ti3 (by decide) rfl (nle rfl) rfl, abn rfl rfl, abn rfl rfl, afa rfl Try.underlying91 rfl rfl ti3 (by decide) rfl, ald rfl ti3 (by decide) rfl (nle rfl) rfl, abn rfl rfl, abn rfl rfl, trivial⟩
   rcases bft ((decide ((w64 (x2 * (w64 (1000 + p0.Off)))) < (w64 (1000 * p0.Reading))))) with hc7 | hc7
   ·replace h := Qav hc7 h
    refine wft hc7 (by kernel_rfl) ?_
    refine Qar [mv 3 (I x2), rp [(.tmp 20, I x2), ci 1] (I (w64 (x2 + 1))), mv 21 (I (w64 (x2 + 1)))] ?_ ?_
    ·exact ⟨amv rfl, abn rfl rfl, aas rfl, trivial⟩
    refine thn ?_
    exact ⟨(w64 (x2 + 1)), h, (mto (n := 31) [(1, .ref 0 2 0 0), (2, .ref 1 2 0 0), (3, (I (w64 (x2 + 1))))] [0, 1] [(.own 2 [[I p0.Reading, I p0.Off]]), (.own 2 [[I 0, I 0]])] hφ0 (pc (.rn (rqr rfl)) (pc (.rn (rqr rfl)) (pc rwl pn))) (qc (spb (lc rwl (lc rwl ln))) (qc (spb (lc rwl (lc rwl ln))) qn)))⟩
   ·replace h := Qaw hc7 h
    refine wfn hc7 (by kernel_rfl) ?_
    refine Qam ?_
    refine thn ?_
    exact ⟨(x2), h, (mto (n := 31) [(1, .ref 0 2 0 0), (2, .ref 1 2 0 0), (3, I x2)] [0, 1] [(.own 2 [[I p0.Reading, I p0.Off]]), (.own 2 [[I 0, I 0]])] hφ0 (pc (.rn (rqr rfl)) (pc (.rn (rqr rfl)) (pc rwl pn))) (qc (spb (lc rwl (lc rwl ln))) (qc (spb (lc rwl (lc rwl ln))) qn)))⟩

def Qbb (N : Nat) (p0 : (List GNode)) (p1 : GMeters) (k12 : (List GRange) → Option ((List GRange) × Int)) : (List (Int × GNode)) → (List GRange) → (List GRange) → Option ((List GRange) × Int)
  | [], y18, _ =>
    k12 (y18)
  | x23 :: q24, y18, y19 =>
    (getI p1.Use x23.1).bind fun x32 =>
    chk (decide (0 ≤ x23.1) && decide (x23.1.toNat < (p0.length : Int).toNat)) <|
    (y19[x23.1.toNat]?).bind fun x37 =>
    (Qcw N x32).bind fun x40 =>
    chk (decide (0 ≤ x23.1) && decide (x23.1.toNat < (p0.length : Int).toNat)) <|
    (y19[x23.1.toNat]?).bind fun x42 =>
    (Qcw N x32).bind fun x45 =>
    Qca (fun y46 =>
      Qca (fun y48 =>
        Qca (fun ⟨y50, y51, y52⟩ =>
          bif (decide (x23.2.Parent ≥ 0)) then
           chk (decide (0 ≤ x23.2.Parent) && decide (x23.2.Parent.toNat < (p0.length : Int).toNat)) <|
           (y19[x23.2.Parent.toNat]?).bind fun x56 =>
           chk (decide (0 ≤ x23.2.Parent) && decide (x23.2.Parent.toNat < (p0.length : Int).toNat)) <|
           (y19[x23.2.Parent.toNat]?).bind fun x59 =>
           chk (decide (0 ≤ x23.2.Parent) && decide (x23.2.Parent.toNat < (p0.length : Int).toNat)) <|
           (y19[x23.2.Parent.toNat]?).bind fun _ =>
           Qbb N p0 p1 k12 q24 y50 (y19.set x23.2.Parent.toNat (⟨w64 (x56.Lo + y51), w64 (x59.Hi + y52)⟩ : GRange))
          else
           Qbb N p0 p1 k12 q24 y50 y19) fun k53 : (List GRange) × Int × Int → Option ((List GRange) × Int) =>
        (getI p1.Has x23.1).bind fun x64 =>
        bif x64 then
         (getI p1.Flow x23.1).bind fun x69 =>
         (Qcw N x69).bind fun x74 =>
         chk (decide (0 ≤ x23.1) && decide (x23.1.toNat < (p0.length : Int).toNat)) <|
         (y18[x23.1.toNat]?).bind fun _ =>
         k53 (y18.set x23.1.toNat (⟨w64 (x74.Lo - y48), w64 (x74.Hi - y46)⟩ : GRange), x74.Lo, x74.Hi)
        else
         k53 (y18, y46, y48)) fun k49 : Int → Option ((List GRange) × Int) =>
      bif (decide ((w64 (x42.Hi + x45.Hi)) > 0)) then
       k49 (w64 ((w64 (x42.Hi + x45.Hi)) + x23.2.Loss))
      else
       k49 (w64 (x42.Hi + x45.Hi))) fun k47 : Int → Option ((List GRange) × Int) =>
    bif (decide ((w64 (x37.Lo + x40.Lo)) > 0)) then
     k47 (w64 ((w64 (x37.Lo + x40.Lo)) + x23.2.Loss))
    else
     k47 (w64 (x37.Lo + x40.Lo))
def Qcv (N : Nat) (p0 : (List GNode)) (p1 : GMeters) (k8 : Unit → Option ((List GRange) × Int)) : Nat → Int → Option ((List GRange) × Int)
  | 0, _ => none
  | n82 + 1, y80 =>
    bif (decide (y80 < (p0.length : Int))) then
     (getI p1.Use y80).bind fun x84 =>
     (Qdr N x84).bind fun x89 =>
     bif (!x89) then
      some ([], 2)
     else
      (getI p1.Has y80).bind fun x91 =>
      bif x91 then
       (getI p1.Flow y80).bind fun x96 =>
       (Qdr N x96).bind fun x101 =>
       bif (!x101) then
        some ([], 2)
       else
        Qcv N p0 p1 k8 n82 (w64 (y80 + 1))
      else
       Qcv N p0 p1 k8 n82 (w64 (y80 + 1))
    else
     k8 ()
def Qdv (N : Nat) (p0 : (List GNode)) (p1 : GMeters) : Option ((List GRange) × Int) :=
  (Qej N p0).bind fun x5 =>
  bif (!x5) then
   some ([], 1)
  else
   Qca (fun _ =>
     Qca (fun _ =>
       chk (decide (0 ≤ (p0.length : Int)) && decide (16 * (p0.length : Int) ≤ 281474976710656) && decide ((p0.length : Int) ≤ 9223372036854775807)) <|
       chk (decide (0 ≤ (p0.length : Int)) && decide (16 * (p0.length : Int) ≤ 281474976710656) && decide ((p0.length : Int) ≤ 9223372036854775807)) <|
       Qca (fun y11 =>
         chk (decide ((p0.length : Int).toNat ≤ y11.length)) <|
         some (y11.take ((p0.length : Int).toNat), 0)) fun k12 : (List GRange) → Option ((List GRange) × Int) =>
       (Qa8 N p0).bind fun _ =>
       (Qa7 N p0).bind fun q16 =>
       Qbb N p0 p1 k12 q16 (List.replicate (p0.length : Int).toNat (⟨0, 0⟩ : GRange)) (List.replicate (p0.length : Int).toNat (⟨0, 0⟩ : GRange))) fun k8 : Unit → Option ((List GRange) × Int) =>
     Qcv N p0 p1 k8 N 0) fun k7 : Unit → Option ((List GRange) × Int) =>
   bif ((p1.Use.length : Int) != (p0.length : Int)) then
    some ([], 2)
   else
    bif ((p1.Flow.length : Int) != (p0.length : Int)) then
     some ([], 2)
    else
     bif ((p1.Has.length : Int) != (p0.length : Int)) then
      some ([], 2)
     else
      k7 ()
set_option maxRecDepth 100000 in
set_option maxHeartbeats 4000000 in
theorem town_MissingX_ok (N : Nat) (p0 : (List GNode)) (p1 : GMeters) (r : ((List GRange) × Int)) (h : Qdv N p0 p1 = some r) : Spec Try.prog 50 [(.dat 4 (p0.map Qaa)), (.agg (Qfi p1))] [] (.tup [(.dat 2 ((r.1 : List GRange).map Qai)), (I (r.2))]) [] := by
  refine Qaq Try.func50 rfl 0 (nle rfl) (fun X φ0 w0 hφ0 => ?_)
  unfold Qdv at h
  refine Qc1 ?_
  refine wrg [⟨[(.tmp 1, (.agg [(.dat 2 ((p1.Use : List GMeter).map Qab)), (.dat 2 ((p1.Flow : List GMeter).map Qab)), (.dat 1 ((p1.Has : List Bool).map Qae))]))], [(0, .unused)], .ref 0 3 0 0, [(0, (.own 3 [[(.dat 2 ((p1.Use : List GMeter).map Qab)), (.dat 2 ((p1.Flow : List GMeter).map Qab)), (.dat 1 ((p1.Has : List Bool).map Qae))]]))], false⟩, mc (.slice none 0 0), mc (.int .i64 0)] ?_ ?_
  ·exact ⟨Qbu rfl (by rfl) rfl rfl, aas rfl, aas rfl, trivial⟩
  refine wsq ?_
  obtain ⟨x5, hf4, h⟩ := bno h
  refine wrg [mv 0 (.dat 4 ((p0 : List GNode).map Qaa)), rp [fu 80, (.tmp 14, (.dat 4 ((p0 : List GNode).map Qaa)))] (B x5), rp [(.tmp 15, B x5)] (B ((!x5)))] ?_ ?_
  ·exact ⟨amv rfl, apc (first := []) (cap := []) (vs := [(.dat 4 ((p0 : List GNode).map Qaa))]) rfl enter80 (Qgq N p0 _ hf4) rfl rfl (nlc (nld Qag _) nl0) nll rfl, Qap rfl, trivial⟩
  rcases bft ((!x5)) with hc6 | hc6
  ·replace h := Qav hc6 h
   refine wft hc6 (by kernel_rfl) ?_
   refine wrg [mc (.slice none 0 0), mc (.int .i64 1)] ?_ ?_
   ·exact ⟨aas rfl, aas rfl, trivial⟩
   refine wmr (mto (n := 174) (l' := [(4, (.dat 2 (([] : List GRange).map Qai))), (5, I 1)]) (own' := []) [(4, nilS), (5, I 1)] [] [] hφ0 (pc (.nil _) (pc rwl pn)) qn) ?_
   refine Qak ?_
   refine Qao ?_
   obtain rfl := osi h
   exact ⟨_, Mor.rfl, Qc0 (vs := [(.dat 2 (([] : List GRange).map Qai)), I 1]) ⟨rot (by kernel_rfl), rot (by kernel_rfl), trivial⟩ rfl (NLt.tup _ (nlc (nld Qbo _) (nlc nll nl0))) (by kernel_rfl) Qbx⟩
  ·replace h := Qaw hc6 h
   refine wfn hc6 (by kernel_rfl) ?_
   refine Qam ?_
   refine thn ?_
   obtain ⟨k7, hk_k7, h⟩ := jko h
   refine wjn (τ := Unit) (fun t => k7 t = some r) (fun _ => ⟨mk 174 [(0, (.dat 4 ((p0 : List GNode).map Qaa))), (3, .ref 0 3 0 0)], [(.own 3 [[(.dat 2 ((p1.Use : List GMeter).map Qab)), (.dat 2 ((p1.Flow : List GMeter).map Qab)), (.dat 1 ((p1.Has : List Bool).map Qae))]])]⟩) (fun t h => ?_) ?_
   ·subst hk_k7
    obtain ⟨k8, hk_k8, h⟩ := jko h
    refine wjn (τ := Unit) (fun t => k8 t = some r) (fun _ => ⟨mk 174 [(0, (.dat 4 ((p0 : List GNode).map Qaa))), (3, .ref 0 3 0 0)], [(.own 3 [[(.dat 2 ((p1.Use : List GMeter).map Qab)), (.dat 2 ((p1.Flow : List GMeter).map Qab)), (.dat 1 ((p1.Has : List Bool).map Qae))]])]⟩) (fun t h => ?_) ?_
    ·subst hk_k8
     obtain ⟨hm9, h⟩ := cko h
     obtain ⟨hm10, h⟩ := cko h
     refine Qct [mv 0 (.dat 4 ((p0 : List GNode).map Qaa)), rp [(.tmp 68, (.dat 4 ((p0 : List GNode).map Qaa)))] (I ((p0.length : Int))), ⟨[(.tmp 69, (I ((p0.length : Int)))), (.tmp 69, (I ((p0.length : Int))))], [(1, .unused)], (.own 1 2 (0) ((p0.length : Int).toNat)), [(1, (.own 2 ((List.replicate (p0.length : Int).toNat (⟨0, 0⟩ : GRange) : List GRange).map Qai)))], false⟩, mv 0 (.dat 4 ((p0 : List GNode).map Qaa)), rp [(.tmp 71, (.dat 4 ((p0 : List GNode).map Qaa)))] (I ((p0.length : Int))), ⟨[(.tmp 72, (I ((p0.length : Int)))), (.tmp 72, (I ((p0.length : Int))))], [(2, .unused)], (.own 2 2 (0) ((p0.length : Int).toNat)), [(2, (.own 2 ((List.replicate (p0.length : Int).toNat (⟨0, 0⟩ : GRange) : List GRange).map Qai)))], false⟩, ⟨[], [(3, .unused)], .ref 3 1 0 0, [(3, .own 1 [[nilS]])], false⟩, ⟨[], [(4, .unused)], .ref 4 1 0 0, [(4, .own 1 [[nilS]])], false⟩, ⟨[(.tmp 7, .ref 3 1 0 0), (.tmp 70, (.own 1 2 (0) ((p0.length : Int).toNat)))], [(3, .own 1 [[nilS]])], .any, [(3, (.own 1 [[(.own 1 2 (0) ((p0.length : Int).toNat))]]))], false⟩, ⟨[(.tmp 8, .ref 4 1 0 0), (.tmp 73, (.own 2 2 (0) ((p0.length : Int).toNat)))], [(4, .own 1 [[nilS]])], .any, [(4, (.own 1 [[(.own 2 2 (0) ((p0.length : Int).toNat))]]))], false⟩] ?_ ?_
     ·exact ⟨amv rfl, alm (c := Qaa) (l := p0) (aln rfl Try.underlying31 rfl), Qf7 rfl Try.underlying100 te93 tz93 rfl (and3a hm9) rfl (and3b hm9) (and3c' hm9) (Qia Qai rfl), amv rfl, alm (c := Qaa) (l := p0) (aln rfl Try.underlying31 rfl), Qf7 rfl Try.underlying100 te93 tz93 rfl (and3a hm10) rfl (and3b hm10) (and3c' hm10) (Qia Qai rfl), Qaz rfl tz100 rfl, Qaz rfl tz100 rfl, ast rfl ti100 (by rfl) rfl (nle rfl) rfl, ast rfl ti100 (by rfl) rfl (nle rfl) rfl, trivial⟩
     obtain ⟨k12, hk_k12, h⟩ := jko h
     refine wjn (τ := (List GRange)) (fun t => k12 t = some r) (fun y11 => ⟨mk 174 [(7, .ref 0 1 0 0)], [(.own 1 [[(.own 1 2 (0) ((p0.length : Int).toNat))]]), (.own 2 ((y11 : List GRange).map Qai))]⟩) (fun y11 h => ?_) ?_
     ·subst hk_k12
      refine wrg [rb [(.tmp 7, .ref 0 1 0 0)] [(0, (.own 1 [[(.own 1 2 (0) ((p0.length : Int).toNat))]]))] (.own 1 2 (0) ((p0.length : Int).toNat)), mv 173 (.own 1 2 (0) ((p0.length : Int).toNat)), mc (.int .i64 0)] ?_ ?_
      ·exact ⟨ald rfl ti100 (by decide) rfl (nle rfl) rfl, aas rfl, aas rfl, trivial⟩
      obtain ⟨hz13, h⟩ := cko h
      refine wmr (mor_fz (n := 174) (l' := [(4, (.dat 2 ((y11.take ((p0.length : Int).toNat) : List GRange).map Qai))), (5, I 0)]) 1 [(4, (.own 1 2 (0) ((p0.length : Int).toNat))), (5, I 0)] (by kernel_rfl) (by kernel_rfl) (by kernel_rfl) ⟨rfl, (Qig hz13), rfl, (.same _), trivial⟩ rfl) ?_
      refine wmr (mto (n := 174) (l' := [(4, (.dat 2 ((y11.take ((p0.length : Int).toNat) : List GRange).map Qai))), (5, I 0)]) (own' := []) [(4, (.dat 2 ((y11.take ((p0.length : Int).toNat) : List GRange).map Qai))), (5, I 0)] [] [] hφ0 (pc (.rn (.plain _ (nld Qbo _))) (pc rwl pn)) qn) ?_
      refine Qak ?_
      obtain rfl := osi h
      exact ⟨_, Mor.rfl, Qc0 (vs := [(.dat 2 ((y11.take ((p0.length : Int).toNat) : List GRange).map Qai)), I 0]) ⟨rot (by kernel_rfl), rot (by kernel_rfl), trivial⟩ rfl (NLt.tup _ (nlc (nld Qbo _) (nlc nll nl0))) (by kernel_rfl) Qbx⟩
     ·skip
      obtain ⟨x15, hf14, h⟩ := bno h
      refine wrg [mv 0 (.dat 4 ((p0 : List GNode).map Qaa)), ⟨[fu 86, (.tmp 74, (.dat 4 ((p0 : List GNode).map Qaa)))], [(5, .unused)], (.fn (.func 105) [] [.ref 5 1 0 0]), [(5, (.own 1 [[(.dat 4 ((p0 : List GNode).map Qaa))]]))], false⟩] ?_ ?_
      ·exact ⟨amv rfl, Qa4 (first := []) (cap := []) (vs := [(.dat 4 ((p0 : List GNode).map Qaa))]) (σr := []) (σr' := [(.own 1 [[(.dat 4 ((p0 : List GNode).map Qaa))]])]) (res' := (.fn (.func 105) [] [.ref 5 1 0 0])) [5] rfl enter86 (Qcs N p0 _ hf14) rfl (Qc3 (rnc (.plain _ (nld Qag _)) rn0)) Qa0 (slc (Qat (rnc (.plain _ (nld Qag _)) rn0)) Qa0) (Qa2 rn0 (rnc (Qfw rfl) rn0)) rfl rfl rfl, trivial⟩
      refine Qan ?_
      obtain ⟨q16, hL17, h⟩ := bno h
      refine wmr (mto (n := 174) (l' := [(3, .ref 0 3 0 0), (7, .ref 1 1 0 0), (8, .ref 2 1 0 0), (75, (.fn (.func 105) [] [.ref 3 1 0 0]))]) (own' := [(.own 3 [[(.dat 2 ((p1.Use : List GMeter).map Qab)), (.dat 2 ((p1.Flow : List GMeter).map Qab)), (.dat 1 ((p1.Has : List Bool).map Qae))]]), (.own 1 [[(.own 4 2 (0) ((p0.length : Int).toNat))]]), (.own 1 [[(.own 5 2 (0) ((p0.length : Int).toNat))]]), (.own 1 [[(.dat 4 ((p0 : List GNode).map Qaa))]]), (.own 2 ((List.replicate (p0.length : Int).toNat (⟨0, 0⟩ : GRange) : List GRange).map Qai)), (.own 2 ((List.replicate (p0.length : Int).toNat (⟨0, 0⟩ : GRange) : List GRange).map Qai))]) [(3, .ref 0 3 0 0), (7, .ref 3 1 0 0), (8, .ref 4 1 0 0), (75, (.fn (.func 105) [] [.ref 5 1 0 0]))] [0, 3, 4, 5, 1, 2] [(.own 3 [[(.dat 2 ((p1.Use : List GMeter).map Qab)), (.dat 2 ((p1.Flow : List GMeter).map Qab)), (.dat 1 ((p1.Has : List Bool).map Qae))]]), (.own 1 [[(.own 1 2 (0) ((p0.length : Int).toNat))]]), (.own 1 [[(.own 2 2 (0) ((p0.length : Int).toNat))]]), (.own 1 [[(.dat 4 ((p0 : List GNode).map Qaa))]]), (.own 2 ((List.replicate (p0.length : Int).toNat (⟨0, 0⟩ : GRange) : List GRange).map Qai)), (.own 2 ((List.replicate (p0.length : Int).toNat (⟨0, 0⟩ : GRange) : List GRange).map Qai))] hφ0 (pc (.rn (rqr rfl)) (pc (.rn (rqr rfl)) (pc (.rn (rqr rfl)) (pc (.rn (Qa2 rn0 (rnc (rqr rfl) rn0))) pn)))) (qc (spb (lc (.rn (.plain _ (nld Qal _))) (lc (.rn (.plain _ (nld Qal _))) (lc (.rn (.plain _ (nld Qbd _))) ln)))) (qc (spb (lc (.rn (Qaj rfl)) ln)) (qc (spb (lc (.rn (Qaj rfl)) ln)) (qc (spb (lc (.rn (.plain _ (nld Qag _))) ln)) (qc (spr Qbo) (qc (spr Qbo) qn))))))) ?_
      refine Qg5 (τ := ((List GRange) × (List GRange))) (kb := 6) (caps := [.ref 3 1 0 0]) (σr := [(.own 1 [[(.dat 4 ((p0 : List GNode).map Qaa))]])]) (encs := fun x => [(.int .i64 (x.1)), (.agg #[(.int .i64 (x.2.Parent)), (.int .i64 (x.2.Loss)), (.int .i64 (x.2.Limit)), (.int .i64 (x.2.Rank))])]) (fun x => [I x.1, (.agg [I x.2.Parent, I x.2.Loss, I x.2.Limit, I x.2.Rank])]) [3] (fun n hn => hφ0 n (Nat.le_trans (nle rfl) hn)) (Qcr N p0 _ hL17) enter105 (by kernel_rfl) (by kernel_rfl) (Qc3 (rnc (Qfw rfl) rn0)) (slc (Qat (rnc (.plain _ (nld Qag _)) rn0)) Qa0) (by kernel_rfl) (fun _ => rfl) (fun x => ⟨lrf, (Less.unlits [(.int .i64 (x.2.Parent)), (.int .i64 (x.2.Loss)), (.int .i64 (x.2.Limit)), (.int .i64 (x.2.Rank))]), trivial⟩) (nlt_mk (Qd9 (NLt.ref _ _ _ _ (by decide)) (Qd9 (NLt.ref _ _ _ _ (by decide)) (Qd9 (NLt.ref _ _ _ _ (by decide)) (Qd9 (NLt.fn _ _ _ nl0 (nlc (NLt.ref _ _ _ _ (by decide)) nl0)) nlp_nil))))) (fun ⟨y18, y19⟩ => [(.own 3 [[(.dat 2 ((p1.Use : List GMeter).map Qab)), (.dat 2 ((p1.Flow : List GMeter).map Qab)), (.dat 1 ((p1.Has : List Bool).map Qae))]]), (.own 1 [[(.own 4 2 (0) ((p0.length : Int).toNat))]]), (.own 1 [[(.own 5 2 (0) ((p0.length : Int).toNat))]]), .dead, (.own 2 ((y18 : List GRange).map Qai)), (.own 2 ((y19 : List GRange).map Qai))]) (fun _ => rfl) (fun _ => rfl) (fun l t => Qbb N p0 p1 k12 l t.1 t.2 = some r) (List.replicate (p0.length : Int).toNat (⟨0, 0⟩ : GRange), List.replicate (p0.length : Int).toNat (⟨0, 0⟩ : GRange)) h (by kernel_rfl) ?_ ?_
      ·intro l25 o26 X29 φ30 w31 hφ28 x23 q24 t h
       obtain ⟨y18, y19⟩ := t
       rw [Qbb] at h
       refine wrg [mv 76 (I x23.1)] ?_ ?_
       ·exact ⟨aas rfl, trivial⟩
       refine Qar [⟨[], [(7, .unused)], .ref 7 4 0 0, [(7, .own 4 [[I 0, I 0, I 0, I 0]])], false⟩, ⟨[(.tmp 10, .ref 7 4 0 0), (.tmp 77, (.agg [I x23.2.Parent, I x23.2.Loss, I x23.2.Limit, I x23.2.Rank]))], [(7, .own 4 [[I 0, I 0, I 0, I 0]])], .any, [(7, .own 4 [[I x23.2.Parent, I x23.2.Loss, I x23.2.Limit, I x23.2.Rank]])], false⟩] ?_ ?_
       ·exact ⟨Qaz rfl tz141 rfl, ast rfl Qgu (by rfl) rfl (nle rfl) rfl, trivial⟩
       refine ⟨by kernel_rfl, fun o27 => ?_⟩
       refine Qan ?_
       obtain ⟨x32, hg33, h⟩ := bno h
       obtain ⟨hi34, hj35⟩ := gsm hg33
       refine wrg [rb [(.tmp 3, .ref 0 3 0 0)] [(0, (.own 3 [[(.dat 2 ((p1.Use : List GMeter).map Qab)), (.dat 2 ((p1.Flow : List GMeter).map Qab)), (.dat 1 ((p1.Has : List Bool).map Qae))]]))] (.ref 0 3 0 0), rb [(.tmp 78, .ref 0 3 0 0)] [(0, (.own 3 [[(.dat 2 ((p1.Use : List GMeter).map Qab)), (.dat 2 ((p1.Flow : List GMeter).map Qab)), (.dat 1 ((p1.Has : List Bool).map Qae))]]))] (.dat 2 ((p1.Use : List GMeter).map Qab)), mv 9 (I x23.1), rp [(.tmp 79, (.dat 2 ((p1.Use : List GMeter).map Qab))), (.tmp 80, I x23.1)] (.dptr (Qab (x32)) 0), rp [(.tmp 81, (.dptr (Qab (x32)) 0))] (.agg [I x32.Reading, I x32.Off]), rp [(.tmp 82, (.agg [I x32.Reading, I x32.Off]))] (.fn (.func 85) [(.agg [I x32.Reading, I x32.Off])] []), mv 83 (.fn (.func 85) [(.agg [I x32.Reading, I x32.Off])] [])] ?_ ?_
       ·exact ⟨afa rfl Try.underlying105 rfl rfl Qfg (by decide) rfl, ald rfl Qfg (by decide) rfl (nle rfl) rfl, amv rfl, aid rfl Try.underlying103 ti96 rfl rfl hi34 (mgt Qab hj35) rfl, ald_ rfl ti96 (by decide) (nle rfl) rfl, Qfq (fs := [(.agg [I x32.Reading, I x32.Off])]) (cs := []) rfl rfl rfl rfl, aas rfl, trivial⟩
       obtain ⟨hi36, h⟩ := cko h
       obtain ⟨hi36a, hi36b⟩ := Qba hi36
       obtain ⟨x37, hg38, h⟩ := bno h
       obtain ⟨x40, hf39, h⟩ := bno h
       obtain ⟨hi41, h⟩ := cko h
       obtain ⟨hi41a, hi41b⟩ := Qba hi41
       obtain ⟨x42, hg43, h⟩ := bno h
       obtain ⟨x45, hf44, h⟩ := bno h
       refine Qct [rb [(.tmp 8, .ref 2 1 0 0)] [(2, (.own 1 [[(.own 5 2 (0) ((p0.length : Int).toNat))]]))] (.own 5 2 (0) ((p0.length : Int).toNat)), mv 9 (I x23.1), rb [(.tmp 84, (.own 5 2 (0) ((p0.length : Int).toNat))), (.tmp 85, I x23.1)] [(5, (.own 2 ((y19 : List GRange).map Qai)))] (.ref 5 2 (x23.1.toNat) 0), rb [(.tmp 86, (.ref 5 2 (x23.1.toNat) 0))] [(5, (.own 2 ((y19 : List GRange).map Qai)))] (.ref 5 2 (x23.1.toNat) 0), rb [(.tmp 87, (.ref 5 2 (x23.1.toNat) 0))] [(5, (.own 2 ((y19 : List GRange).map Qai)))] (I x37.Lo), mv 11 (.fn (.func 85) [(.agg [I x32.Reading, I x32.Off])] []), rp [(.tmp 89, (.fn (.func 85) [(.agg [I x32.Reading, I x32.Off])] []))] (.agg [I x40.Lo, I x40.Hi]), rp [(.tmp 90, (.agg [I x40.Lo, I x40.Hi]))] (I x40.Lo), rp [(.tmp 88, I x37.Lo), (.tmp 91, I x40.Lo)] (I (w64 (x37.Lo + x40.Lo))), rb [(.tmp 8, .ref 2 1 0 0)] [(2, (.own 1 [[(.own 5 2 (0) ((p0.length : Int).toNat))]]))] (.own 5 2 (0) ((p0.length : Int).toNat)), mv 9 (I x23.1), rb [(.tmp 93, (.own 5 2 (0) ((p0.length : Int).toNat))), (.tmp 94, I x23.1)] [(5, (.own 2 ((y19 : List GRange).map Qai)))] (.ref 5 2 (x23.1.toNat) 0), rb [(.tmp 95, (.ref 5 2 (x23.1.toNat) 0))] [(5, (.own 2 ((y19 : List GRange).map Qai)))] (.ref 5 2 (x23.1.toNat) 1), rb [(.tmp 96, (.ref 5 2 (x23.1.toNat) 1))] [(5, (.own 2 ((y19 : List GRange).map Qai)))] (I x42.Hi), mv 11 (.fn (.func 85) [(.agg [I x32.Reading, I x32.Off])] []), rp [(.tmp 98, (.fn (.func 85) [(.agg [I x32.Reading, I x32.Off])] []))] (.agg [I x45.Lo, I x45.Hi]), rp [(.tmp 99, (.agg [I x45.Lo, I x45.Hi]))] (I x45.Hi), rp [(.tmp 97, I x42.Hi), (.tmp 100, I x45.Hi)] (I (w64 (x42.Hi + x45.Hi))), rp [(.tmp 92, (I (w64 (x37.Lo + x40.Lo)))), (.tmp 101, (I (w64 (x42.Hi + x45.Hi))))] (.agg [(I (w64 (x37.Lo + x40.Lo))), (I (w64 (x42.Hi + x45.Hi)))]), ⟨[], [(8, .unused)], .ref 8 2 0 0, [(8, .own 2 [[I 0, I 0]])], false⟩, ⟨[(.tmp 12, .ref 8 2 0 0), (.tmp 102, (.agg [(I (w64 (x37.Lo + x40.Lo))), (I (w64 (x42.Hi + x45.Hi)))]))], [(8, .own 2 [[I 0, I 0]])], .any, [(8, (.own 2 [[(I (w64 (x37.Lo + x40.Lo))), (I (w64 (x42.Hi + x45.Hi)))]]))], false⟩] ?_ ?_
       ·exact ⟨ald rfl ti100 (by decide) rfl (nle rfl) rfl, amv rfl, aio rfl Try.underlying100 ti93 (odt hi36a) (odt hi36b) (Nat.zero_add _), afa rfl Try.underlying93 rfl rfl ti3 (by decide) rfl, ald rfl ti3 (by decide) (mgt Qai hg38) (nle rfl) rfl, amv rfl, apc (first := [(.agg [I x32.Reading, I x32.Off])]) (cap := []) (vs := []) rfl enter85 (Qeg N x32 _ hf39) rfl rfl (nlc (NLt.agg _ (nlc nll (nlc nll nl0))) nl0) (NLt.agg _ (nlc nll (nlc nll nl0))) rfl, astep_field rfl Try.underlying93 rfl rfl ti3 (nle rfl) (by decide) rfl, abn rfl rfl, ald rfl ti100 (by decide) rfl (nle rfl) rfl, amv rfl, aio rfl Try.underlying100 ti93 (odt hi41a) (odt hi41b) (Nat.zero_add _), afa rfl Try.underlying93 rfl rfl ti3 (by decide) rfl, ald rfl ti3 (by decide) (mgt Qai hg43) (nle rfl) rfl, amv rfl, apc (first := [(.agg [I x32.Reading, I x32.Off])]) (cap := []) (vs := []) rfl enter85 (Qeg N x32 _ hf44) rfl rfl (nlc (NLt.agg _ (nlc nll (nlc nll nl0))) nl0) (NLt.agg _ (nlc nll (nlc nll nl0))) rfl, astep_field rfl Try.underlying93 rfl rfl ti3 (nle rfl) (by decide) rfl, abn rfl rfl, Qa9 (vs := [(I (w64 (x37.Lo + x40.Lo))), (I (w64 (x42.Hi + x45.Hi)))]) rfl ts93 tz93 rfl (by rfl) rfl, Qaz rfl tz93 rfl, ast rfl ti93 (by rfl) rfl (nle rfl) rfl, trivial⟩
       obtain ⟨k47, hk_k47, h⟩ := jko h
       refine wjn (τ := Int) (fun t => k47 t = some r) (fun y46 => ⟨mk 174 [(3, .ref 0 3 0 0), (7, .ref 1 1 0 0), (8, .ref 2 1 0 0), (9, I x23.1), (10, .ref 7 4 0 0), (12, .ref 8 2 0 0), (75, (.fn (.func 105) [] [.ref 3 1 0 0]))], [(.own 3 [[(.dat 2 ((p1.Use : List GMeter).map Qab)), (.dat 2 ((p1.Flow : List GMeter).map Qab)), (.dat 1 ((p1.Has : List Bool).map Qae))]]), (.own 1 [[(.own 4 2 (0) ((p0.length : Int).toNat))]]), (.own 1 [[(.own 5 2 (0) ((p0.length : Int).toNat))]]), .dead, (.own 2 ((y18 : List GRange).map Qai)), (.own 2 ((y19 : List GRange).map Qai)), (.far (farL l25 o27)), (.own 4 [[I x23.2.Parent, I x23.2.Loss, I x23.2.Limit, I x23.2.Rank]]), (.own 2 [[I y46, (I (w64 (x42.Hi + x45.Hi)))]])]⟩) (fun y46 h => ?_) ?_
       ·subst hk_k47
        obtain ⟨k49, hk_k49, h⟩ := jko h
        refine wjn (τ := Int) (fun t => k49 t = some r) (fun y48 => ⟨mk 174 [(3, .ref 0 3 0 0), (7, .ref 1 1 0 0), (8, .ref 2 1 0 0), (9, I x23.1), (10, .ref 7 4 0 0), (12, .ref 8 2 0 0), (75, (.fn (.func 105) [] [.ref 3 1 0 0]))], [(.own 3 [[(.dat 2 ((p1.Use : List GMeter).map Qab)), (.dat 2 ((p1.Flow : List GMeter).map Qab)), (.dat 1 ((p1.Has : List Bool).map Qae))]]), (.own 1 [[(.own 4 2 (0) ((p0.length : Int).toNat))]]), (.own 1 [[(.own 5 2 (0) ((p0.length : Int).toNat))]]), .dead, (.own 2 ((y18 : List GRange).map Qai)), (.own 2 ((y19 : List GRange).map Qai)), (.far (farL l25 o27)), (.own 4 [[I x23.2.Parent, I x23.2.Loss, I x23.2.Limit, I x23.2.Rank]]), (.own 2 [[I y46, I y48]])]⟩) (fun y48 h => ?_) ?_
        ·subst hk_k49
         obtain ⟨k53, hk_k53, h⟩ := jko h
         refine wjn (τ := (List GRange) × Int × Int) (fun t => k53 t = some r) (fun ⟨y50, y51, y52⟩ => ⟨mk 174 [(3, .ref 0 3 0 0), (7, .ref 1 1 0 0), (8, .ref 2 1 0 0), (9, I x23.1), (10, .ref 7 4 0 0), (12, .ref 8 2 0 0), (75, (.fn (.func 105) [] [.ref 3 1 0 0]))], [(.own 3 [[(.dat 2 ((p1.Use : List GMeter).map Qab)), (.dat 2 ((p1.Flow : List GMeter).map Qab)), (.dat 1 ((p1.Has : List Bool).map Qae))]]), (.own 1 [[(.own 4 2 (0) ((p0.length : Int).toNat))]]), (.own 1 [[(.own 5 2 (0) ((p0.length : Int).toNat))]]), .dead, (.own 2 ((y50 : List GRange).map Qai)), (.own 2 ((y19 : List GRange).map Qai)), (.far (farL l25 o27)), (.own 4 [[I x23.2.Parent, I x23.2.Loss, I x23.2.Limit, I x23.2.Rank]]), (.own 2 [[I y51, I y52]])]⟩) (fun t h => ?_) ?_
         ·subst hk_k53
          obtain ⟨y50, y51, y52⟩ := t
          refine wrg [rb [(.tmp 10, .ref 7 4 0 0)] [(7, .own 4 [[I x23.2.Parent, I x23.2.Loss, I x23.2.Limit, I x23.2.Rank]])] (.ref 7 4 0 0), rb [(.tmp 147, .ref 7 4 0 0)] [(7, .own 4 [[I x23.2.Parent, I x23.2.Loss, I x23.2.Limit, I x23.2.Rank]])] (I x23.2.Parent), rp [(.tmp 148, I x23.2.Parent), ci 0] (B ((decide (x23.2.Parent ≥ 0))))] ?_ ?_
          ·exact ⟨afa rfl Try.underlying141 rfl rfl ti3 (by decide) rfl, ald rfl ti3 (by decide) rfl (nle rfl) rfl, abn rfl rfl, trivial⟩
          rcases bft ((decide (x23.2.Parent ≥ 0))) with hc54 | hc54
          ·replace h := Qav hc54 h
           refine wft hc54 (by kernel_rfl) ?_
           obtain ⟨hi55, h⟩ := cko h
           obtain ⟨hi55a, hi55b⟩ := Qba hi55
           obtain ⟨x56, hg57, h⟩ := bno h
           obtain ⟨hi58, h⟩ := cko h
           obtain ⟨hi58a, hi58b⟩ := Qba hi58
           obtain ⟨x59, hg60, h⟩ := bno h
           obtain ⟨hi61, h⟩ := cko h
           obtain ⟨hi61a, hi61b⟩ := Qba hi61
           obtain ⟨x62, hg63, h⟩ := bno h
           refine Qde [rb [(.tmp 8, .ref 2 1 0 0)] [(2, (.own 1 [[(.own 5 2 (0) ((p0.length : Int).toNat))]]))] (.own 5 2 (0) ((p0.length : Int).toNat)), rb [(.tmp 10, .ref 7 4 0 0)] [(7, .own 4 [[I x23.2.Parent, I x23.2.Loss, I x23.2.Limit, I x23.2.Rank]])] (.ref 7 4 0 0), rb [(.tmp 151, .ref 7 4 0 0)] [(7, .own 4 [[I x23.2.Parent, I x23.2.Loss, I x23.2.Limit, I x23.2.Rank]])] (I x23.2.Parent), rb [(.tmp 8, .ref 2 1 0 0)] [(2, (.own 1 [[(.own 5 2 (0) ((p0.length : Int).toNat))]]))] (.own 5 2 (0) ((p0.length : Int).toNat)), rb [(.tmp 10, .ref 7 4 0 0)] [(7, .own 4 [[I x23.2.Parent, I x23.2.Loss, I x23.2.Limit, I x23.2.Rank]])] (.ref 7 4 0 0), rb [(.tmp 154, .ref 7 4 0 0)] [(7, .own 4 [[I x23.2.Parent, I x23.2.Loss, I x23.2.Limit, I x23.2.Rank]])] (I x23.2.Parent), rb [(.tmp 153, (.own 5 2 (0) ((p0.length : Int).toNat))), (.tmp 155, I x23.2.Parent)] [(5, (.own 2 ((y19 : List GRange).map Qai)))] (.ref 5 2 (x23.2.Parent.toNat) 0), rb [(.tmp 156, (.ref 5 2 (x23.2.Parent.toNat) 0))] [(5, (.own 2 ((y19 : List GRange).map Qai)))] (.ref 5 2 (x23.2.Parent.toNat) 0), rb [(.tmp 157, (.ref 5 2 (x23.2.Parent.toNat) 0))] [(5, (.own 2 ((y19 : List GRange).map Qai)))] (I x56.Lo), rb [(.tmp 12, .ref 8 2 0 0)] [(8, .own 2 [[I y51, I y52]])] (.ref 8 2 0 0), rb [(.tmp 159, .ref 8 2 0 0)] [(8, .own 2 [[I y51, I y52]])] (I y51), rp [(.tmp 158, I x56.Lo), (.tmp 160, I y51)] (I (w64 (x56.Lo + y51))), rb [(.tmp 8, .ref 2 1 0 0)] [(2, (.own 1 [[(.own 5 2 (0) ((p0.length : Int).toNat))]]))] (.own 5 2 (0) ((p0.length : Int).toNat)), rb [(.tmp 10, .ref 7 4 0 0)] [(7, .own 4 [[I x23.2.Parent, I x23.2.Loss, I x23.2.Limit, I x23.2.Rank]])] (.ref 7 4 0 0), rb [(.tmp 163, .ref 7 4 0 0)] [(7, .own 4 [[I x23.2.Parent, I x23.2.Loss, I x23.2.Limit, I x23.2.Rank]])] (I x23.2.Parent), rb [(.tmp 162, (.own 5 2 (0) ((p0.length : Int).toNat))), (.tmp 164, I x23.2.Parent)] [(5, (.own 2 ((y19 : List GRange).map Qai)))] (.ref 5 2 (x23.2.Parent.toNat) 0), rb [(.tmp 165, (.ref 5 2 (x23.2.Parent.toNat) 0))] [(5, (.own 2 ((y19 : List GRange).map Qai)))] (.ref 5 2 (x23.2.Parent.toNat) 1), rb [(.tmp 166, (.ref 5 2 (x23.2.Parent.toNat) 1))] [(5, (.own 2 ((y19 : List GRange).map Qai)))] (I x59.Hi), rb [(.tmp 12, .ref 8 2 0 0)] [(8, .own 2 [[I y51, I y52]])] (.ref 8 2 0 1), rb [(.tmp 168, .ref 8 2 0 1)] [(8, .own 2 [[I y51, I y52]])] (I y52), rp [(.tmp 167, I x59.Hi), (.tmp 169, I y52)] (I (w64 (x59.Hi + y52))), rp [(.tmp 161, (I (w64 (x56.Lo + y51)))), (.tmp 170, (I (w64 (x59.Hi + y52))))] (.agg [(I (w64 (x56.Lo + y51))), (I (w64 (x59.Hi + y52)))]), rb [(.tmp 150, (.own 5 2 (0) ((p0.length : Int).toNat))), (.tmp 152, I x23.2.Parent)] [(5, (.own 2 ((y19 : List GRange).map Qai)))] (.ref 5 2 (x23.2.Parent.toNat) 0), ⟨[(.tmp 172, (.ref 5 2 (x23.2.Parent.toNat) 0)), (.tmp 171, (.agg [(I (w64 (x56.Lo + y51))), (I (w64 (x59.Hi + y52)))]))], [(5, (.own 2 ((y19 : List GRange).map Qai)))], .any, [(5, (.own 2 ((y19.set x23.2.Parent.toNat (⟨w64 (x56.Lo + y51), w64 (x59.Hi + y52)⟩ : GRange) : List GRange).map Qai)))], false⟩] ?_ ?_
           ·exact ⟨ald rfl ti100 (by decide) rfl (nle rfl) rfl, afa rfl Try.underlying141 rfl rfl ti3 (by decide) rfl, ald rfl ti3 (by decide) rfl (nle rfl) rfl, ald rfl ti100 (by decide) rfl (nle rfl) rfl, afa rfl Try.underlying141 rfl rfl ti3 (by decide) rfl, ald rfl ti3 (by decide) rfl (nle rfl) rfl, aio rfl Try.underlying100 ti93 (odt hi55a) (odt hi55b) (Nat.zero_add _), afa rfl Try.underlying93 rfl rfl ti3 (by decide) rfl, ald rfl ti3 (by decide) (mgt Qai hg57) (nle rfl) rfl, afa rfl Try.underlying93 rfl rfl ti3 (by decide) rfl, ald rfl ti3 (by decide) rfl (nle rfl) rfl, abn rfl rfl, ald rfl ti100 (by decide) rfl (nle rfl) rfl, afa rfl Try.underlying141 rfl rfl ti3 (by decide) rfl, ald rfl ti3 (by decide) rfl (nle rfl) rfl, aio rfl Try.underlying100 ti93 (odt hi58a) (odt hi58b) (Nat.zero_add _), afa rfl Try.underlying93 rfl rfl ti3 (by decide) rfl, ald rfl ti3 (by decide) (mgt Qai hg60) (nle rfl) rfl, afa rfl Try.underlying93 rfl rfl ti3 (by decide) rfl, ald rfl ti3 (by decide) rfl (nle rfl) rfl, abn rfl rfl, Qa9 (vs := [(I (w64 (x56.Lo + y51))), (I (w64 (x59.Hi + y52)))]) rfl ts93 tz93 rfl (by rfl) rfl, aio rfl Try.underlying100 ti93 (odt hi61a) (odt hi61b) (Nat.zero_add _), ast rfl ti93 (by rfl) (mgt Qai hg63) (nle rfl) (Qei Qai rfl), trivial⟩
           refine bln ?_
           exact ⟨(y50, y19.set x23.2.Parent.toNat (⟨w64 (x56.Lo + y51), w64 (x59.Hi + y52)⟩ : GRange)), h, ren_to (own' := [(.own 3 [[(.dat 2 ((p1.Use : List GMeter).map Qab)), (.dat 2 ((p1.Flow : List GMeter).map Qab)), (.dat 1 ((p1.Has : List Bool).map Qae))]]), (.own 1 [[(.own 4 2 (0) ((p0.length : Int).toNat))]]), (.own 1 [[(.own 5 2 (0) ((p0.length : Int).toNat))]]), .dead, (.own 2 ((y50 : List GRange).map Qai)), (.own 2 (((y19.set x23.2.Parent.toNat (⟨w64 (x56.Lo + y51), w64 (x59.Hi + y52)⟩ : GRange)) : List GRange).map Qai)), (.far (farL l25 o27))]) [0, 1, 2, 3, 4, 5, 6] [(.own 3 [[(.dat 2 ((p1.Use : List GMeter).map Qab)), (.dat 2 ((p1.Flow : List GMeter).map Qab)), (.dat 1 ((p1.Has : List Bool).map Qae))]]), (.own 1 [[(.own 4 2 (0) ((p0.length : Int).toNat))]]), (.own 1 [[(.own 5 2 (0) ((p0.length : Int).toNat))]]), .dead, (.own 2 ((y50 : List GRange).map Qai)), (.own 2 ((y19.set x23.2.Parent.toNat (⟨w64 (x56.Lo + y51), w64 (x59.Hi + y52)⟩ : GRange) : List GRange).map Qai)), (.far (farL l25 o27))] (by kernel_rfl) (by kernel_rfl) ⟨(spb (lc (.rn (.plain _ (nld Qal _))) (lc (.rn (.plain _ (nld Qal _))) (lc (.rn (.plain _ (nld Qbd _))) ln)))), (spb (lc (.rn (Qaj rfl)) ln)), (spb (lc (.rn (Qaj rfl)) ln)), .dead, (spr Qbo), (spr Qbo), .far _, trivial⟩⟩
          ·replace h := Qaw hc54 h
           refine wfn hc54 (by kernel_rfl) ?_
           refine Qam ?_
           refine bln ?_
           exact ⟨(y50, y19), h, ren_to (own' := [(.own 3 [[(.dat 2 ((p1.Use : List GMeter).map Qab)), (.dat 2 ((p1.Flow : List GMeter).map Qab)), (.dat 1 ((p1.Has : List Bool).map Qae))]]), (.own 1 [[(.own 4 2 (0) ((p0.length : Int).toNat))]]), (.own 1 [[(.own 5 2 (0) ((p0.length : Int).toNat))]]), .dead, (.own 2 ((y50 : List GRange).map Qai)), (.own 2 ((y19 : List GRange).map Qai)), (.far (farL l25 o27))]) [0, 1, 2, 3, 4, 5, 6] [(.own 3 [[(.dat 2 ((p1.Use : List GMeter).map Qab)), (.dat 2 ((p1.Flow : List GMeter).map Qab)), (.dat 1 ((p1.Has : List Bool).map Qae))]]), (.own 1 [[(.own 4 2 (0) ((p0.length : Int).toNat))]]), (.own 1 [[(.own 5 2 (0) ((p0.length : Int).toNat))]]), .dead, (.own 2 ((y50 : List GRange).map Qai)), (.own 2 ((y19 : List GRange).map Qai)), (.far (farL l25 o27))] (by kernel_rfl) (by kernel_rfl) ⟨(spb (lc (.rn (.plain _ (nld Qal _))) (lc (.rn (.plain _ (nld Qal _))) (lc (.rn (.plain _ (nld Qbd _))) ln)))), (spb (lc (.rn (Qaj rfl)) ln)), (spb (lc (.rn (Qaj rfl)) ln)), .dead, (spr Qbo), (spr Qbo), .far _, trivial⟩⟩
         ·skip
          obtain ⟨x64, hg65, h⟩ := bno h
          obtain ⟨hi66, hj67⟩ := gsm hg65
          refine wrg [rb [(.tmp 3, .ref 0 3 0 0)] [(0, (.own 3 [[(.dat 2 ((p1.Use : List GMeter).map Qab)), (.dat 2 ((p1.Flow : List GMeter).map Qab)), (.dat 1 ((p1.Has : List Bool).map Qae))]]))] (.ref 0 3 0 2), rb [(.tmp 121, .ref 0 3 0 2)] [(0, (.own 3 [[(.dat 2 ((p1.Use : List GMeter).map Qab)), (.dat 2 ((p1.Flow : List GMeter).map Qab)), (.dat 1 ((p1.Has : List Bool).map Qae))]]))] (.dat 1 ((p1.Has : List Bool).map Qae)), mv 9 (I x23.1), rp [(.tmp 122, (.dat 1 ((p1.Has : List Bool).map Qae))), (.tmp 123, I x23.1)] (.dptr (Qae (x64)) 0), rp [(.tmp 124, (.dptr (Qae (x64)) 0))] (B x64)] ?_ ?_
          ·exact ⟨afa rfl Try.underlying105 rfl rfl ti26 (by decide) rfl, ald rfl ti26 (by decide) rfl (nle rfl) rfl, amv rfl, aid rfl Try.underlying26 ti4 rfl rfl hi66 (mgt Qae hj67) rfl, ald_ rfl ti4 (by decide) (nle rfl) rfl, trivial⟩
          rcases bft (x64) with hc68 | hc68
          ·replace h := Qav hc68 h
           refine wft hc68 (by kernel_rfl) ?_
           obtain ⟨x69, hg70, h⟩ := bno h
           obtain ⟨hi71, hj72⟩ := gsm hg70
           obtain ⟨x74, hf73, h⟩ := bno h
           refine wrg [rb [(.tmp 3, .ref 0 3 0 0)] [(0, (.own 3 [[(.dat 2 ((p1.Use : List GMeter).map Qab)), (.dat 2 ((p1.Flow : List GMeter).map Qab)), (.dat 1 ((p1.Has : List Bool).map Qae))]]))] (.ref 0 3 0 1), rb [(.tmp 126, .ref 0 3 0 1)] [(0, (.own 3 [[(.dat 2 ((p1.Use : List GMeter).map Qab)), (.dat 2 ((p1.Flow : List GMeter).map Qab)), (.dat 1 ((p1.Has : List Bool).map Qae))]]))] (.dat 2 ((p1.Flow : List GMeter).map Qab)), mv 9 (I x23.1), rp [(.tmp 127, (.dat 2 ((p1.Flow : List GMeter).map Qab))), (.tmp 128, I x23.1)] (.dptr (Qab (x69)) 0), rp [(.tmp 129, (.dptr (Qab (x69)) 0))] (.agg [I x69.Reading, I x69.Off]), rp [fu 85, (.tmp 130, (.agg [I x69.Reading, I x69.Off]))] (.agg [I x74.Lo, I x74.Hi]), ⟨[], [(9, .unused)], .ref 9 2 0 0, [(9, .own 2 [[I 0, I 0]])], false⟩, ⟨[(.tmp 13, .ref 9 2 0 0), (.tmp 131, (.agg [I x74.Lo, I x74.Hi]))], [(9, .own 2 [[I 0, I 0]])], .any, [(9, .own 2 [[I x74.Lo, I x74.Hi]])], false⟩] ?_ ?_
           ·exact ⟨afa rfl Try.underlying105 rfl rfl Qfg (by decide) rfl, ald rfl Qfg (by decide) rfl (nle rfl) rfl, amv rfl, aid rfl Try.underlying103 ti96 rfl rfl hi71 (mgt Qab hj72) rfl, ald_ rfl ti96 (by decide) (nle rfl) rfl, apc (first := []) (cap := []) (vs := [(.agg [I x69.Reading, I x69.Off])]) rfl enter85 (Qeg N x69 _ hf73) rfl rfl (nlc (NLt.agg _ (nlc nll (nlc nll nl0))) nl0) (NLt.agg _ (nlc nll (nlc nll nl0))) rfl, Qaz rfl tz93 rfl, ast rfl ti93 (by rfl) rfl (nle rfl) rfl, trivial⟩
           obtain ⟨hi75, h⟩ := cko h
           obtain ⟨hi75a, hi75b⟩ := Qba hi75
           obtain ⟨x76, hg77, h⟩ := bno h
           refine wrg [rb [(.tmp 7, .ref 1 1 0 0)] [(1, (.own 1 [[(.own 4 2 (0) ((p0.length : Int).toNat))]]))] (.own 4 2 (0) ((p0.length : Int).toNat)), mv 9 (I x23.1), rb [(.tmp 13, .ref 9 2 0 0)] [(9, .own 2 [[I x74.Lo, I x74.Hi]])] (.ref 9 2 0 0), rb [(.tmp 134, .ref 9 2 0 0)] [(9, .own 2 [[I x74.Lo, I x74.Hi]])] (I x74.Lo), rb [(.tmp 12, .ref 8 2 0 0)] [(8, .own 2 [[I y46, I y48]])] (.ref 8 2 0 1), rb [(.tmp 136, .ref 8 2 0 1)] [(8, .own 2 [[I y46, I y48]])] (I y48), rp [(.tmp 135, I x74.Lo), (.tmp 137, I y48)] (I (w64 (x74.Lo - y48))), rb [(.tmp 13, .ref 9 2 0 0)] [(9, .own 2 [[I x74.Lo, I x74.Hi]])] (.ref 9 2 0 1), rb [(.tmp 139, .ref 9 2 0 1)] [(9, .own 2 [[I x74.Lo, I x74.Hi]])] (I x74.Hi), rb [(.tmp 12, .ref 8 2 0 0)] [(8, .own 2 [[I y46, I y48]])] (.ref 8 2 0 0), rb [(.tmp 141, .ref 8 2 0 0)] [(8, .own 2 [[I y46, I y48]])] (I y46), rp [(.tmp 140, I x74.Hi), (.tmp 142, I y46)] (I (w64 (x74.Hi - y46))), rp [(.tmp 138, (I (w64 (x74.Lo - y48)))), (.tmp 143, (I (w64 (x74.Hi - y46))))] (.agg [(I (w64 (x74.Lo - y48))), (I (w64 (x74.Hi - y46)))]), rb [(.tmp 132, (.own 4 2 (0) ((p0.length : Int).toNat))), (.tmp 133, I x23.1)] [(4, (.own 2 ((y18 : List GRange).map Qai)))] (.ref 4 2 (x23.1.toNat) 0), ⟨[(.tmp 145, (.ref 4 2 (x23.1.toNat) 0)), (.tmp 144, (.agg [(I (w64 (x74.Lo - y48))), (I (w64 (x74.Hi - y46)))]))], [(4, (.own 2 ((y18 : List GRange).map Qai)))], .any, [(4, (.own 2 ((y18.set x23.1.toNat (⟨w64 (x74.Lo - y48), w64 (x74.Hi - y46)⟩ : GRange) : List GRange).map Qai)))], false⟩] ?_ ?_
           ·exact ⟨ald rfl ti100 (by decide) rfl (nle rfl) rfl, amv rfl, afa rfl Try.underlying93 rfl rfl ti3 (by decide) rfl, ald rfl ti3 (by decide) rfl (nle rfl) rfl, afa rfl Try.underlying93 rfl rfl ti3 (by decide) rfl, ald rfl ti3 (by decide) rfl (nle rfl) rfl, abn rfl rfl, afa rfl Try.underlying93 rfl rfl ti3 (by decide) rfl, ald rfl ti3 (by decide) rfl (nle rfl) rfl, afa rfl Try.underlying93 rfl rfl ti3 (by decide) rfl, ald rfl ti3 (by decide) rfl (nle rfl) rfl, abn rfl rfl, Qa9 (vs := [(I (w64 (x74.Lo - y48))), (I (w64 (x74.Hi - y46)))]) rfl ts93 tz93 rfl (by rfl) rfl, aio rfl Try.underlying100 ti93 (odt hi75a) (odt hi75b) (Nat.zero_add _), ast rfl ti93 (by rfl) (mgt Qai hg77) (nle rfl) (Qei Qai rfl), trivial⟩
           refine Qar [rb [(.tmp 13, .ref 9 2 0 0)] [(9, .own 2 [[I x74.Lo, I x74.Hi]])] (.agg [I x74.Lo, I x74.Hi]), ⟨[(.tmp 12, .ref 8 2 0 0), (.tmp 146, (.agg [I x74.Lo, I x74.Hi]))], [(8, .own 2 [[I y46, I y48]])], .any, [(8, .own 2 [[I x74.Lo, I x74.Hi]])], false⟩] ?_ ?_
           ·exact ⟨ald rfl ti93 (by decide) rfl (nle rfl) rfl, ast rfl ti93 (by rfl) rfl (nle rfl) rfl, trivial⟩
           refine thn ?_
           exact ⟨(y18.set x23.1.toNat (⟨w64 (x74.Lo - y48), w64 (x74.Hi - y46)⟩ : GRange), x74.Lo, x74.Hi), h, (mto (n := 174) [(3, .ref 0 3 0 0), (7, .ref 1 1 0 0), (8, .ref 2 1 0 0), (9, I x23.1), (10, .ref 7 4 0 0), (12, .ref 8 2 0 0), (75, (.fn (.func 105) [] [.ref 3 1 0 0]))] [0, 1, 2, 3, 4, 5, 6, 7, 8] [(.own 3 [[(.dat 2 ((p1.Use : List GMeter).map Qab)), (.dat 2 ((p1.Flow : List GMeter).map Qab)), (.dat 1 ((p1.Has : List Bool).map Qae))]]), (.own 1 [[(.own 4 2 (0) ((p0.length : Int).toNat))]]), (.own 1 [[(.own 5 2 (0) ((p0.length : Int).toNat))]]), .dead, (.own 2 ((y18.set x23.1.toNat (⟨w64 (x74.Lo - y48), w64 (x74.Hi - y46)⟩ : GRange) : List GRange).map Qai)), (.own 2 ((y19 : List GRange).map Qai)), (.far (farL l25 o27)), (.own 4 [[I x23.2.Parent, I x23.2.Loss, I x23.2.Limit, I x23.2.Rank]]), (.own 2 [[I x74.Lo, I x74.Hi]])] hφ28 (pc (.rn (rqr rfl)) (pc (.rn (rqr rfl)) (pc (.rn (rqr rfl)) (pc rwl (pc (.rn (rqr rfl)) (pc (.rn (rqr rfl)) (pc (.rn (Qa2 rn0 (rnc (rqr rfl) rn0))) pn))))))) (qc (spb (lc (.rn (.plain _ (nld Qal _))) (lc (.rn (.plain _ (nld Qal _))) (lc (.rn (.plain _ (nld Qbd _))) ln)))) (qc (spb (lc (.rn (Qaj rfl)) ln)) (qc (spb (lc (.rn (Qaj rfl)) ln)) (qc .dead (qc (spr Qbo) (qc (spr Qbo) (qc (.far _) (qc (spb (lc rwl (lc rwl (lc rwl (lc rwl ln))))) (qc (spb (lc rwl (lc rwl ln))) qn))))))))))⟩
          ·replace h := Qaw hc68 h
           refine wfn hc68 (by kernel_rfl) ?_
           refine Qam ?_
           refine thn ?_
           exact ⟨(y18, y46, y48), h, (mto (n := 174) [(3, .ref 0 3 0 0), (7, .ref 1 1 0 0), (8, .ref 2 1 0 0), (9, I x23.1), (10, .ref 7 4 0 0), (12, .ref 8 2 0 0), (75, (.fn (.func 105) [] [.ref 3 1 0 0]))] [0, 1, 2, 3, 4, 5, 6, 7, 8] [(.own 3 [[(.dat 2 ((p1.Use : List GMeter).map Qab)), (.dat 2 ((p1.Flow : List GMeter).map Qab)), (.dat 1 ((p1.Has : List Bool).map Qae))]]), (.own 1 [[(.own 4 2 (0) ((p0.length : Int).toNat))]]), (.own 1 [[(.own 5 2 (0) ((p0.length : Int).toNat))]]), .dead, (.own 2 ((y18 : List GRange).map Qai)), (.own 2 ((y19 : List GRange).map Qai)), (.far (farL l25 o27)), (.own 4 [[I x23.2.Parent, I x23.2.Loss, I x23.2.Limit, I x23.2.Rank]]), (.own 2 [[I y46, I y48]])] hφ28 (pc (.rn (rqr rfl)) (pc (.rn (rqr rfl)) (pc (.rn (rqr rfl)) (pc rwl (pc (.rn (rqr rfl)) (pc (.rn (rqr rfl)) (pc (.rn (Qa2 rn0 (rnc (rqr rfl) rn0))) pn))))))) (qc (spb (lc (.rn (.plain _ (nld Qal _))) (lc (.rn (.plain _ (nld Qal _))) (lc (.rn (.plain _ (nld Qbd _))) ln)))) (qc (spb (lc (.rn (Qaj rfl)) ln)) (qc (spb (lc (.rn (Qaj rfl)) ln)) (qc .dead (qc (spr Qbo) (qc (spr Qbo) (qc (.far _) (qc (spb (lc rwl (lc rwl (lc rwl (lc rwl ln))))) (qc (spb (lc rwl (lc rwl ln))) qn))))))))))⟩
        ·skip
         refine wrg [rb [(.tmp 12, .ref 8 2 0 0)] [(8, (.own 2 [[I y46, (I (w64 (x42.Hi + x45.Hi)))]]))] (.ref 8 2 0 1), rb [(.tmp 112, .ref 8 2 0 1)] [(8, (.own 2 [[I y46, (I (w64 (x42.Hi + x45.Hi)))]]))] (I (w64 (x42.Hi + x45.Hi))), rp [(.tmp 113, (I (w64 (x42.Hi + x45.Hi)))), ci 0] (B ((decide ((w64 (x42.Hi + x45.Hi)) > 0))))] ?_ ?_
         ·exact ⟨afa rfl Try.underlying93 rfl rfl ti3 (by decide) rfl, ald rfl ti3 (by decide) rfl (nle rfl) rfl, abn rfl rfl, trivial⟩
         rcases bft ((decide ((w64 (x42.Hi + x45.Hi)) > 0))) with hc78 | hc78
         ·replace h := Qav hc78 h
          refine wft hc78 (by kernel_rfl) ?_
          refine Qar [rb [(.tmp 12, .ref 8 2 0 0)] [(8, (.own 2 [[I y46, (I (w64 (x42.Hi + x45.Hi)))]]))] (.ref 8 2 0 1), rb [(.tmp 115, .ref 8 2 0 1)] [(8, (.own 2 [[I y46, (I (w64 (x42.Hi + x45.Hi)))]]))] (I (w64 (x42.Hi + x45.Hi))), rb [(.tmp 10, .ref 7 4 0 0)] [(7, .own 4 [[I x23.2.Parent, I x23.2.Loss, I x23.2.Limit, I x23.2.Rank]])] (.ref 7 4 0 1), rb [(.tmp 117, .ref 7 4 0 1)] [(7, .own 4 [[I x23.2.Parent, I x23.2.Loss, I x23.2.Limit, I x23.2.Rank]])] (I x23.2.Loss), rp [(.tmp 116, (I (w64 (x42.Hi + x45.Hi)))), (.tmp 118, I x23.2.Loss)] (I (w64 ((w64 (x42.Hi + x45.Hi)) + x23.2.Loss))), rb [(.tmp 12, .ref 8 2 0 0)] [(8, (.own 2 [[I y46, (I (w64 (x42.Hi + x45.Hi)))]]))] (.ref 8 2 0 1), ⟨[(.tmp 120, .ref 8 2 0 1), (.tmp 119, (I (w64 ((w64 (x42.Hi + x45.Hi)) + x23.2.Loss))))], [(8, (.own 2 [[I y46, (I (w64 (x42.Hi + x45.Hi)))]]))], .any, [(8, (.own 2 [[I y46, (I (w64 ((w64 (x42.Hi + x45.Hi)) + x23.2.Loss)))]]))], false⟩] ?_ ?_
          ·exact ⟨afa rfl Try.underlying93 rfl rfl ti3 (by decide) rfl, ald rfl ti3 (by decide) rfl (nle rfl) rfl, afa rfl Try.underlying141 rfl rfl ti3 (by decide) rfl, ald rfl ti3 (by decide) rfl (nle rfl) rfl, abn rfl rfl, afa rfl Try.underlying93 rfl rfl ti3 (by decide) rfl, ast rfl ti3 (by rfl) rfl (nle rfl) rfl, trivial⟩
          refine thn ?_
          exact ⟨(w64 ((w64 (x42.Hi + x45.Hi)) + x23.2.Loss)), h, (mto (n := 174) [(3, .ref 0 3 0 0), (7, .ref 1 1 0 0), (8, .ref 2 1 0 0), (9, I x23.1), (10, .ref 7 4 0 0), (12, .ref 8 2 0 0), (75, (.fn (.func 105) [] [.ref 3 1 0 0]))] [0, 1, 2, 3, 4, 5, 6, 7, 8] [(.own 3 [[(.dat 2 ((p1.Use : List GMeter).map Qab)), (.dat 2 ((p1.Flow : List GMeter).map Qab)), (.dat 1 ((p1.Has : List Bool).map Qae))]]), (.own 1 [[(.own 4 2 (0) ((p0.length : Int).toNat))]]), (.own 1 [[(.own 5 2 (0) ((p0.length : Int).toNat))]]), .dead, (.own 2 ((y18 : List GRange).map Qai)), (.own 2 ((y19 : List GRange).map Qai)), (.far (farL l25 o27)), (.own 4 [[I x23.2.Parent, I x23.2.Loss, I x23.2.Limit, I x23.2.Rank]]), (.own 2 [[I y46, (I (w64 ((w64 (x42.Hi + x45.Hi)) + x23.2.Loss)))]])] hφ28 (pc (.rn (rqr rfl)) (pc (.rn (rqr rfl)) (pc (.rn (rqr rfl)) (pc rwl (pc (.rn (rqr rfl)) (pc (.rn (rqr rfl)) (pc (.rn (Qa2 rn0 (rnc (rqr rfl) rn0))) pn))))))) (qc (spb (lc (.rn (.plain _ (nld Qal _))) (lc (.rn (.plain _ (nld Qal _))) (lc (.rn (.plain _ (nld Qbd _))) ln)))) (qc (spb (lc (.rn (Qaj rfl)) ln)) (qc (spb (lc (.rn (Qaj rfl)) ln)) (qc .dead (qc (spr Qbo) (qc (spr Qbo) (qc (.far _) (qc (spb (lc rwl (lc rwl (lc rwl (lc rwl ln))))) (qc (spb (lc rwl (lc rwl ln))) qn))))))))))⟩
         ·replace h := Qaw hc78 h
          refine wfn hc78 (by kernel_rfl) ?_
          refine Qam ?_
          refine thn ?_
          exact ⟨(w64 (x42.Hi + x45.Hi)), h, (mto (n := 174) [(3, .ref 0 3 0 0), (7, .ref 1 1 0 0), (8, .ref 2 1 0 0), (9, I x23.1), (10, .ref 7 4 0 0), (12, .ref 8 2 0 0), (75, (.fn (.func 105) [] [.ref 3 1 0 0]))] [0, 1, 2, 3, 4, 5, 6, 7, 8] [(.own 3 [[(.dat 2 ((p1.Use : List GMeter).map Qab)), (.dat 2 ((p1.Flow : List GMeter).map Qab)), (.dat 1 ((p1.Has : List Bool).map Qae))]]), (.own 1 [[(.own 4 2 (0) ((p0.length : Int).toNat))]]), (.own 1 [[(.own 5 2 (0) ((p0.length : Int).toNat))]]), .dead, (.own 2 ((y18 : List GRange).map Qai)), (.own 2 ((y19 : List GRange).map Qai)), (.far (farL l25 o27)), (.own 4 [[I x23.2.Parent, I x23.2.Loss, I x23.2.Limit, I x23.2.Rank]]), (.own 2 [[I y46, (I (w64 (x42.Hi + x45.Hi)))]])] hφ28 (pc (.rn (rqr rfl)) (pc (.rn (rqr rfl)) (pc (.rn (rqr rfl)) (pc rwl (pc (.rn (rqr rfl)) (pc (.rn (rqr rfl)) (pc (.rn (Qa2 rn0 (rnc (rqr rfl) rn0))) pn))))))) (qc (spb (lc (.rn (.plain _ (nld Qal _))) (lc (.rn (.plain _ (nld Qal _))) (lc (.rn (.plain _ (nld Qbd _))) ln)))) (qc (spb (lc (.rn (Qaj rfl)) ln)) (qc (spb (lc (.rn (Qaj rfl)) ln)) (qc .dead (qc (spr Qbo) (qc (spr Qbo) (qc (.far _) (qc (spb (lc rwl (lc rwl (lc rwl (lc rwl ln))))) (qc (spb (lc rwl (lc rwl ln))) qn))))))))))⟩
       ·skip
        refine wrg [rb [(.tmp 12, .ref 8 2 0 0)] [(8, (.own 2 [[(I (w64 (x37.Lo + x40.Lo))), (I (w64 (x42.Hi + x45.Hi)))]]))] (.ref 8 2 0 0), rb [(.tmp 103, .ref 8 2 0 0)] [(8, (.own 2 [[(I (w64 (x37.Lo + x40.Lo))), (I (w64 (x42.Hi + x45.Hi)))]]))] (I (w64 (x37.Lo + x40.Lo))), rp [(.tmp 104, (I (w64 (x37.Lo + x40.Lo)))), ci 0] (B ((decide ((w64 (x37.Lo + x40.Lo)) > 0))))] ?_ ?_
        ·exact ⟨afa rfl Try.underlying93 rfl rfl ti3 (by decide) rfl, ald rfl ti3 (by decide) rfl (nle rfl) rfl, abn rfl rfl, trivial⟩
        rcases bft ((decide ((w64 (x37.Lo + x40.Lo)) > 0))) with hc79 | hc79
        ·replace h := Qav hc79 h
         refine wft hc79 (by kernel_rfl) ?_
         refine Qar [rb [(.tmp 12, .ref 8 2 0 0)] [(8, (.own 2 [[(I (w64 (x37.Lo + x40.Lo))), (I (w64 (x42.Hi + x45.Hi)))]]))] (.ref 8 2 0 0), rb [(.tmp 106, .ref 8 2 0 0)] [(8, (.own 2 [[(I (w64 (x37.Lo + x40.Lo))), (I (w64 (x42.Hi + x45.Hi)))]]))] (I (w64 (x37.Lo + x40.Lo))), rb [(.tmp 10, .ref 7 4 0 0)] [(7, .own 4 [[I x23.2.Parent, I x23.2.Loss, I x23.2.Limit, I x23.2.Rank]])] (.ref 7 4 0 1), rb [(.tmp 108, .ref 7 4 0 1)] [(7, .own 4 [[I x23.2.Parent, I x23.2.Loss, I x23.2.Limit, I x23.2.Rank]])] (I x23.2.Loss), rp [(.tmp 107, (I (w64 (x37.Lo + x40.Lo)))), (.tmp 109, I x23.2.Loss)] (I (w64 ((w64 (x37.Lo + x40.Lo)) + x23.2.Loss))), rb [(.tmp 12, .ref 8 2 0 0)] [(8, (.own 2 [[(I (w64 (x37.Lo + x40.Lo))), (I (w64 (x42.Hi + x45.Hi)))]]))] (.ref 8 2 0 0), ⟨[(.tmp 111, .ref 8 2 0 0), (.tmp 110, (I (w64 ((w64 (x37.Lo + x40.Lo)) + x23.2.Loss))))], [(8, (.own 2 [[(I (w64 (x37.Lo + x40.Lo))), (I (w64 (x42.Hi + x45.Hi)))]]))], .any, [(8, (.own 2 [[(I (w64 ((w64 (x37.Lo + x40.Lo)) + x23.2.Loss))), (I (w64 (x42.Hi + x45.Hi)))]]))], false⟩] ?_ ?_
         ·exact ⟨afa rfl Try.underlying93 rfl rfl ti3 (by decide) rfl, ald rfl ti3 (by decide) rfl (nle rfl) rfl, afa rfl Try.underlying141 rfl rfl ti3 (by decide) rfl, ald rfl ti3 (by decide) rfl (nle rfl) rfl, abn rfl rfl, afa rfl Try.underlying93 rfl rfl ti3 (by decide) rfl, ast rfl ti3 (by rfl) rfl (nle rfl) rfl, trivial⟩
         refine thn ?_
         exact ⟨(w64 ((w64 (x37.Lo + x40.Lo)) + x23.2.Loss)), h, (mto (n := 174) [(3, .ref 0 3 0 0), (7, .ref 1 1 0 0), (8, .ref 2 1 0 0), (9, I x23.1), (10, .ref 7 4 0 0), (12, .ref 8 2 0 0), (75, (.fn (.func 105) [] [.ref 3 1 0 0]))] [0, 1, 2, 3, 4, 5, 6, 7, 8] [(.own 3 [[(.dat 2 ((p1.Use : List GMeter).map Qab)), (.dat 2 ((p1.Flow : List GMeter).map Qab)), (.dat 1 ((p1.Has : List Bool).map Qae))]]), (.own 1 [[(.own 4 2 (0) ((p0.length : Int).toNat))]]), (.own 1 [[(.own 5 2 (0) ((p0.length : Int).toNat))]]), .dead, (.own 2 ((y18 : List GRange).map Qai)), (.own 2 ((y19 : List GRange).map Qai)), (.far (farL l25 o27)), (.own 4 [[I x23.2.Parent, I x23.2.Loss, I x23.2.Limit, I x23.2.Rank]]), (.own 2 [[(I (w64 ((w64 (x37.Lo + x40.Lo)) + x23.2.Loss))), (I (w64 (x42.Hi + x45.Hi)))]])] hφ28 (pc (.rn (rqr rfl)) (pc (.rn (rqr rfl)) (pc (.rn (rqr rfl)) (pc rwl (pc (.rn (rqr rfl)) (pc (.rn (rqr rfl)) (pc (.rn (Qa2 rn0 (rnc (rqr rfl) rn0))) pn))))))) (qc (spb (lc (.rn (.plain _ (nld Qal _))) (lc (.rn (.plain _ (nld Qal _))) (lc (.rn (.plain _ (nld Qbd _))) ln)))) (qc (spb (lc (.rn (Qaj rfl)) ln)) (qc (spb (lc (.rn (Qaj rfl)) ln)) (qc .dead (qc (spr Qbo) (qc (spr Qbo) (qc (.far _) (qc (spb (lc rwl (lc rwl (lc rwl (lc rwl ln))))) (qc (spb (lc rwl (lc rwl ln))) qn))))))))))⟩
        ·replace h := Qaw hc79 h
         refine wfn hc79 (by kernel_rfl) ?_
         refine Qam ?_
         refine thn ?_
         exact ⟨(w64 (x37.Lo + x40.Lo)), h, (mto (n := 174) [(3, .ref 0 3 0 0), (7, .ref 1 1 0 0), (8, .ref 2 1 0 0), (9, I x23.1), (10, .ref 7 4 0 0), (12, .ref 8 2 0 0), (75, (.fn (.func 105) [] [.ref 3 1 0 0]))] [0, 1, 2, 3, 4, 5, 6, 7, 8] [(.own 3 [[(.dat 2 ((p1.Use : List GMeter).map Qab)), (.dat 2 ((p1.Flow : List GMeter).map Qab)), (.dat 1 ((p1.Has : List Bool).map Qae))]]), (.own 1 [[(.own 4 2 (0) ((p0.length : Int).toNat))]]), (.own 1 [[(.own 5 2 (0) ((p0.length : Int).toNat))]]), .dead, (.own 2 ((y18 : List GRange).map Qai)), (.own 2 ((y19 : List GRange).map Qai)), (.far (farL l25 o27)), (.own 4 [[I x23.2.Parent, I x23.2.Loss, I x23.2.Limit, I x23.2.Rank]]), (.own 2 [[(I (w64 (x37.Lo + x40.Lo))), (I (w64 (x42.Hi + x45.Hi)))]])] hφ28 (pc (.rn (rqr rfl)) (pc (.rn (rqr rfl)) (pc (.rn (rqr rfl)) (pc rwl (pc (.rn (rqr rfl)) (pc (.rn (rqr rfl)) (pc (.rn (Qa2 rn0 (rnc (rqr rfl) rn0))) pn))))))) (qc (spb (lc (.rn (.plain _ (nld Qal _))) (lc (.rn (.plain _ (nld Qal _))) (lc (.rn (.plain _ (nld Qbd _))) ln)))) (qc (spb (lc (.rn (Qaj rfl)) ln)) (qc (spb (lc (.rn (Qaj rfl)) ln)) (qc .dead (qc (spr Qbo) (qc (spr Qbo) (qc (.far _) (qc (spb (lc rwl (lc rwl (lc rwl (lc rwl ln))))) (qc (spb (lc rwl (lc rwl ln))) qn))))))))))⟩
      ·intro t h
       obtain ⟨y18, y19⟩ := t
       rw [Qbb] at h
       refine bln ?_
       refine thn ?_
       exact ⟨(y18), h, (mto (n := 174) [(7, .ref 1 1 0 0)] [1, 4] [(.own 1 [[(.own 4 2 (0) ((p0.length : Int).toNat))]]), (.own 2 ((y18 : List GRange).map Qai))] hφ0 (pc (.rn (rqr rfl)) pn) (qc (spb (lc (.rn (Qaj rfl)) ln)) (qc (spr Qbo) qn)))⟩
    ·skip
     refine wrg [mv 0 (.dat 4 ((p0 : List GNode).map Qaa)), rp [(.tmp 39, (.dat 4 ((p0 : List GNode).map Qaa)))] (I ((p0.length : Int))), mc (.int .i64 0)] ?_ ?_
     ·exact ⟨amv rfl, alm (c := Qaa) (l := p0) (aln rfl Try.underlying31 rfl), amv rfl, trivial⟩
     refine Qan ?_
     refine wmr (mto (n := 174) (l' := [(0, (.dat 4 ((p0 : List GNode).map Qaa))), (3, .ref 0 3 0 0), (40, (I ((p0.length : Int)))), (41, I 0)]) (own' := [(.own 3 [[(.dat 2 ((p1.Use : List GMeter).map Qab)), (.dat 2 ((p1.Flow : List GMeter).map Qab)), (.dat 1 ((p1.Has : List Bool).map Qae))]])]) [(0, (.dat 4 ((p0 : List GNode).map Qaa))), (3, .ref 0 3 0 0), (40, (I ((p0.length : Int)))), (41, I 0)] [0] [(.own 3 [[(.dat 2 ((p1.Use : List GMeter).map Qab)), (.dat 2 ((p1.Flow : List GMeter).map Qab)), (.dat 1 ((p1.Has : List Bool).map Qae))]])] hφ0 (pc (.rn (.plain _ (nld Qag _))) (pc (.rn (rqr rfl)) (pc rwl (pc rwl pn)))) (qc (spb (lc (.rn (.plain _ (nld Qal _))) (lc (.rn (.plain _ (nld Qal _))) (lc (.rn (.plain _ (nld Qbd _))) ln)))) qn)) ?_
     refine Qcc (τ := Int) (fun n t => Qcv N p0 p1 k8 n t = some r) (fun y80 => ⟨mk 174 [(0, (.dat 4 ((p0 : List GNode).map Qaa))), (3, .ref 0 3 0 0), (40, (I ((p0.length : Int)))), (41, I y80)], [(.own 3 [[(.dat 2 ((p1.Use : List GMeter).map Qab)), (.dat 2 ((p1.Flow : List GMeter).map Qab)), (.dat 1 ((p1.Has : List Bool).map Qae))]])]⟩) (fun t h => by rw [Qcv] at h; cases h) (fun n82 ih y80 h => ?_) N (0) h
     rw [Qcv] at h
     skip
     refine wrg [rp [(.tmp 41, I y80), (.tmp 40, (I ((p0.length : Int))))] (B ((decide (y80 < (p0.length : Int)))))] ?_ ?_
     ·exact ⟨abn rfl rfl, trivial⟩
     refine wsq ?_
     rcases bft ((decide (y80 < (p0.length : Int)))) with hc83 | hc83
     ·replace h := Qav hc83 h
      refine wft hc83 (by kernel_rfl) ?_
      refine Qam ?_
      refine thn ?_
      refine wsq ?_
      refine Qan ?_
      refine wrg [mv 41 (I y80), mv 43 (I y80)] ?_ ?_
      ·exact ⟨amv rfl, aas rfl, trivial⟩
      obtain ⟨x84, hg85, h⟩ := bno h
      obtain ⟨hi86, hj87⟩ := gsm hg85
      obtain ⟨x89, hf88, h⟩ := bno h
      rcases bft ((!x89)) with hb90 | hb90
      ·replace h := Qav hb90 h
       refine wrg [rb [(.tmp 3, .ref 0 3 0 0)] [(0, (.own 3 [[(.dat 2 ((p1.Use : List GMeter).map Qab)), (.dat 2 ((p1.Flow : List GMeter).map Qab)), (.dat 1 ((p1.Has : List Bool).map Qae))]]))] (.ref 0 3 0 0), rb [(.tmp 44, .ref 0 3 0 0)] [(0, (.own 3 [[(.dat 2 ((p1.Use : List GMeter).map Qab)), (.dat 2 ((p1.Flow : List GMeter).map Qab)), (.dat 1 ((p1.Has : List Bool).map Qae))]]))] (.dat 2 ((p1.Use : List GMeter).map Qab)), mv 6 (I y80), rp [(.tmp 45, (.dat 2 ((p1.Use : List GMeter).map Qab))), (.tmp 46, I y80)] (.dptr (Qab (x84)) 0), rp [(.tmp 47, (.dptr (Qab (x84)) 0))] (.agg [I x84.Reading, I x84.Off]), rp [fu 84, (.tmp 48, (.agg [I x84.Reading, I x84.Off]))] (B x89), rp [(.tmp 49, B x89)] (B ((!x89))), rp [(.tmp 50, (B ((!x89))))] (B true), sk 51 (B true), sk 51 (B true), sk 51 (B true), sk 51 (B true), sk 51 (B true), sk 51 (B true), sk 57 (.lit undef), sk 57 (.lit undef), sk 57 (.lit undef), sk 57 (.lit undef), sk 57 (.lit undef), sk 57 (.lit undef), sk 57 (.lit undef), sk 51 (B true), rp [(.tmp 51, B true), cb true, (.tmp 65, (.lit undef))] (B true)] ?_ ?_
       ·exact ⟨afa rfl Try.underlying105 rfl rfl Qfg (by decide) rfl, ald rfl Qfg (by decide) rfl (nle rfl) rfl, amv rfl, aid rfl Try.underlying103 ti96 rfl rfl hi86 (mgt Qab hj87) rfl, ald_ rfl ti96 (by decide) (nle rfl) rfl, apc (first := []) (cap := []) (vs := [(.agg [I x84.Reading, I x84.Off])]) rfl enter84 (Qd2 N x84 _ hf88) rfl rfl (nlc (NLt.agg _ (nlc nll (nlc nll nl0))) nl0) nll rfl, Qap rfl, asb hb90 (amv rfl), trivial, trivial, trivial, trivial, trivial, trivial, trivial, trivial, trivial, trivial, trivial, trivial, trivial, trivial, apk rfl rfl, trivial⟩
       refine Qbq (by kernel_rfl) ?_
       refine wrg [mc (.slice none 0 0), mc (.int .i64 2)] ?_ ?_
       ·exact ⟨aas rfl, aas rfl, trivial⟩
       refine wmr (mto (n := 174) (l' := [(4, (.dat 2 (([] : List GRange).map Qai))), (5, I 2)]) (own' := []) [(4, nilS), (5, I 2)] [] [] hφ0 (pc (.nil _) (pc rwl pn)) qn) ?_
       refine Qak ?_
       refine Qa3 ?_
       refine Qao ?_
       refine Qao ?_
       refine Qa3 ?_
       refine Qao ?_
       obtain rfl := osi h
       exact ⟨_, Mor.rfl, Qc0 (vs := [(.dat 2 (([] : List GRange).map Qai)), I 2]) ⟨rot (by kernel_rfl), rot (by kernel_rfl), trivial⟩ rfl (NLt.tup _ (nlc (nld Qbo _) (nlc nll nl0))) (by kernel_rfl) Qbx⟩
      ·replace h := Qaw hb90 h
       obtain ⟨x91, hg92, h⟩ := bno h
       obtain ⟨hi93, hj94⟩ := gsm hg92
       rcases bft (x91) with hb95 | hb95
       ·replace h := Qav hb95 h
        obtain ⟨x96, hg97, h⟩ := bno h
        obtain ⟨hi98, hj99⟩ := gsm hg97
        obtain ⟨x101, hf100, h⟩ := bno h
        refine wrg [rb [(.tmp 3, .ref 0 3 0 0)] [(0, (.own 3 [[(.dat 2 ((p1.Use : List GMeter).map Qab)), (.dat 2 ((p1.Flow : List GMeter).map Qab)), (.dat 1 ((p1.Has : List Bool).map Qae))]]))] (.ref 0 3 0 0), rb [(.tmp 44, .ref 0 3 0 0)] [(0, (.own 3 [[(.dat 2 ((p1.Use : List GMeter).map Qab)), (.dat 2 ((p1.Flow : List GMeter).map Qab)), (.dat 1 ((p1.Has : List Bool).map Qae))]]))] (.dat 2 ((p1.Use : List GMeter).map Qab)), mv 6 (I y80), rp [(.tmp 45, (.dat 2 ((p1.Use : List GMeter).map Qab))), (.tmp 46, I y80)] (.dptr (Qab (x84)) 0), rp [(.tmp 47, (.dptr (Qab (x84)) 0))] (.agg [I x84.Reading, I x84.Off]), rp [fu 84, (.tmp 48, (.agg [I x84.Reading, I x84.Off]))] (B x89), rp [(.tmp 49, B x89)] (B ((!x89))), rp [(.tmp 50, (B ((!x89))))] (B false), rb [(.tmp 51, B false), (.tmp 3, .ref 0 3 0 0)] [(0, (.own 3 [[(.dat 2 ((p1.Use : List GMeter).map Qab)), (.dat 2 ((p1.Flow : List GMeter).map Qab)), (.dat 1 ((p1.Has : List Bool).map Qae))]]))] (.ref 0 3 0 2), rb [(.tmp 51, B false), (.tmp 52, .ref 0 3 0 2)] [(0, (.own 3 [[(.dat 2 ((p1.Use : List GMeter).map Qab)), (.dat 2 ((p1.Flow : List GMeter).map Qab)), (.dat 1 ((p1.Has : List Bool).map Qae))]]))] (.dat 1 ((p1.Has : List Bool).map Qae)), rp [(.tmp 51, B false), (.tmp 6, I y80)] (I y80), rp [(.tmp 51, B false), (.tmp 53, (.dat 1 ((p1.Has : List Bool).map Qae))), (.tmp 54, I y80)] (.dptr (Qae (x91)) 0), rp [(.tmp 51, B false), (.tmp 55, (.dptr (Qae (x91)) 0))] (B x91), rp [(.tmp 51, B false), (.tmp 56, B x91)] (B true), rb [(.tmp 57, B true), (.tmp 3, .ref 0 3 0 0)] [(0, (.own 3 [[(.dat 2 ((p1.Use : List GMeter).map Qab)), (.dat 2 ((p1.Flow : List GMeter).map Qab)), (.dat 1 ((p1.Has : List Bool).map Qae))]]))] (.ref 0 3 0 1), rb [(.tmp 57, B true), (.tmp 58, .ref 0 3 0 1)] [(0, (.own 3 [[(.dat 2 ((p1.Use : List GMeter).map Qab)), (.dat 2 ((p1.Flow : List GMeter).map Qab)), (.dat 1 ((p1.Has : List Bool).map Qae))]]))] (.dat 2 ((p1.Flow : List GMeter).map Qab)), rp [(.tmp 57, B true), (.tmp 6, I y80)] (I y80), rp [(.tmp 57, B true), (.tmp 59, (.dat 2 ((p1.Flow : List GMeter).map Qab))), (.tmp 60, I y80)] (.dptr (Qab (x96)) 0), rp [(.tmp 57, B true), (.tmp 61, (.dptr (Qab (x96)) 0))] (.agg [I x96.Reading, I x96.Off]), rp [(.tmp 57, B true), fu 84, (.tmp 62, (.agg [I x96.Reading, I x96.Off]))] (B x101), rp [(.tmp 57, B true), (.tmp 63, B x101)] (B ((!x101))), rp [(.tmp 51, B false), (.tmp 57, B true), (.tmp 64, (B ((!x101)))), cb false] (B ((!x101))), rp [(.tmp 51, B false), cb true, (.tmp 65, (B ((!x101))))] (B ((!x101)))] ?_ ?_
        ·exact ⟨afa rfl Try.underlying105 rfl rfl Qfg (by decide) rfl, ald rfl Qfg (by decide) rfl (nle rfl) rfl, amv rfl, aid rfl Try.underlying103 ti96 rfl rfl hi86 (mgt Qab hj87) rfl, ald_ rfl ti96 (by decide) (nle rfl) rfl, apc (first := []) (cap := []) (vs := [(.agg [I x84.Reading, I x84.Off])]) rfl enter84 (Qd2 N x84 _ hf88) rfl rfl (nlc (NLt.agg _ (nlc nll (nlc nll nl0))) nl0) nll rfl, Qap rfl, asb hb90 (amv rfl), ag_ (afa rfl Try.underlying105 rfl rfl ti26 (by decide) rfl), ag_ (ald rfl ti26 (by decide) rfl (nle rfl) rfl), ag_ (amv rfl), ag_ (aid rfl Try.underlying26 ti4 rfl rfl hi93 (mgt Qae hj94) rfl), ag_ (ald_ rfl ti4 (by decide) (nle rfl) rfl), asb hb95 (ag_ (amv rfl)), ag_ (afa rfl Try.underlying105 rfl rfl Qfg (by decide) rfl), ag_ (ald rfl Qfg (by decide) rfl (nle rfl) rfl), ag_ (amv rfl), ag_ (aid rfl Try.underlying103 ti96 rfl rfl hi98 (mgt Qab hj99) rfl), ag_ (ald_ rfl ti96 (by decide) (nle rfl) rfl), ag_ (apc (first := []) (cap := []) (vs := [(.agg [I x96.Reading, I x96.Off])]) rfl enter84 (Qd2 N x96 _ hf100) rfl rfl (nlc (NLt.agg _ (nlc nll (nlc nll nl0))) nl0) nll rfl), ag_ (Qap rfl), ag_ (apk rfl rfl), apk rfl rfl, trivial⟩
        rcases bft ((!x101)) with hc102 | hc102
        ·replace h := Qav hc102 h
         refine wft hc102 (by kernel_rfl) ?_
         refine wrg [mc (.slice none 0 0), mc (.int .i64 2)] ?_ ?_
         ·exact ⟨aas rfl, aas rfl, trivial⟩
         refine wmr (mto (n := 174) (l' := [(4, (.dat 2 (([] : List GRange).map Qai))), (5, I 2)]) (own' := []) [(4, nilS), (5, I 2)] [] [] hφ0 (pc (.nil _) (pc rwl pn)) qn) ?_
         refine Qak ?_
         refine Qa3 ?_
         refine Qao ?_
         refine Qao ?_
         refine Qa3 ?_
         refine Qao ?_
         obtain rfl := osi h
         exact ⟨_, Mor.rfl, Qc0 (vs := [(.dat 2 (([] : List GRange).map Qai)), I 2]) ⟨rot (by kernel_rfl), rot (by kernel_rfl), trivial⟩ rfl (NLt.tup _ (nlc (nld Qbo _) (nlc nll nl0))) (by kernel_rfl) Qbx⟩
        ·replace h := Qaw hc102 h
         refine wfn hc102 (by kernel_rfl) ?_
         refine Qam ?_
         refine bln ?_
         refine thn ?_
         refine Qar [rp [(.tmp 41, I y80), ci 1] (I (w64 (y80 + 1))), mv 67 (I (w64 (y80 + 1)))] ?_ ?_
         ·exact ⟨abn rfl rfl, amv rfl, trivial⟩
         refine thn ?_
         exact arm (mto (n := 174) [(0, (.dat 4 ((p0 : List GNode).map Qaa))), (3, .ref 0 3 0 0), (40, (I ((p0.length : Int)))), (41, (I (w64 (y80 + 1))))] [0] [(.own 3 [[(.dat 2 ((p1.Use : List GMeter).map Qab)), (.dat 2 ((p1.Flow : List GMeter).map Qab)), (.dat 1 ((p1.Has : List Bool).map Qae))]])] hφ0 (pc (.rn (.plain _ (nld Qag _))) (pc (.rn (rqr rfl)) (pc rwl (pc rwl pn)))) (qc (spb (lc (.rn (.plain _ (nld Qal _))) (lc (.rn (.plain _ (nld Qal _))) (lc (.rn (.plain _ (nld Qbd _))) ln)))) qn)) (ih (w64 (y80 + 1)) h)
       ·replace h := Qaw hb95 h
        refine wrg [rb [(.tmp 3, .ref 0 3 0 0)] [(0, (.own 3 [[(.dat 2 ((p1.Use : List GMeter).map Qab)), (.dat 2 ((p1.Flow : List GMeter).map Qab)), (.dat 1 ((p1.Has : List Bool).map Qae))]]))] (.ref 0 3 0 0), rb [(.tmp 44, .ref 0 3 0 0)] [(0, (.own 3 [[(.dat 2 ((p1.Use : List GMeter).map Qab)), (.dat 2 ((p1.Flow : List GMeter).map Qab)), (.dat 1 ((p1.Has : List Bool).map Qae))]]))] (.dat 2 ((p1.Use : List GMeter).map Qab)), mv 6 (I y80), rp [(.tmp 45, (.dat 2 ((p1.Use : List GMeter).map Qab))), (.tmp 46, I y80)] (.dptr (Qab (x84)) 0), rp [(.tmp 47, (.dptr (Qab (x84)) 0))] (.agg [I x84.Reading, I x84.Off]), rp [fu 84, (.tmp 48, (.agg [I x84.Reading, I x84.Off]))] (B x89), rp [(.tmp 49, B x89)] (B ((!x89))), rp [(.tmp 50, (B ((!x89))))] (B false), rb [(.tmp 51, B false), (.tmp 3, .ref 0 3 0 0)] [(0, (.own 3 [[(.dat 2 ((p1.Use : List GMeter).map Qab)), (.dat 2 ((p1.Flow : List GMeter).map Qab)), (.dat 1 ((p1.Has : List Bool).map Qae))]]))] (.ref 0 3 0 2), rb [(.tmp 51, B false), (.tmp 52, .ref 0 3 0 2)] [(0, (.own 3 [[(.dat 2 ((p1.Use : List GMeter).map Qab)), (.dat 2 ((p1.Flow : List GMeter).map Qab)), (.dat 1 ((p1.Has : List Bool).map Qae))]]))] (.dat 1 ((p1.Has : List Bool).map Qae)), rp [(.tmp 51, B false), (.tmp 6, I y80)] (I y80), rp [(.tmp 51, B false), (.tmp 53, (.dat 1 ((p1.Has : List Bool).map Qae))), (.tmp 54, I y80)] (.dptr (Qae (x91)) 0), rp [(.tmp 51, B false), (.tmp 55, (.dptr (Qae (x91)) 0))] (B x91), rp [(.tmp 51, B false), (.tmp 56, B x91)] (B false), sk 57 (B false), sk 57 (B false), sk 57 (B false), sk 57 (B false), sk 57 (B false), sk 57 (B false), sk 57 (B false), rp [(.tmp 51, B false), (.tmp 57, B false), (.tmp 64, (.lit undef)), cb false] (B false), rp [(.tmp 51, B false), cb true, (.tmp 65, B false)] (B false)] ?_ ?_
        ·exact ⟨afa rfl Try.underlying105 rfl rfl Qfg (by decide) rfl, ald rfl Qfg (by decide) rfl (nle rfl) rfl, amv rfl, aid rfl Try.underlying103 ti96 rfl rfl hi86 (mgt Qab hj87) rfl, ald_ rfl ti96 (by decide) (nle rfl) rfl, apc (first := []) (cap := []) (vs := [(.agg [I x84.Reading, I x84.Off])]) rfl enter84 (Qd2 N x84 _ hf88) rfl rfl (nlc (NLt.agg _ (nlc nll (nlc nll nl0))) nl0) nll rfl, Qap rfl, asb hb90 (amv rfl), ag_ (afa rfl Try.underlying105 rfl rfl ti26 (by decide) rfl), ag_ (ald rfl ti26 (by decide) rfl (nle rfl) rfl), ag_ (amv rfl), ag_ (aid rfl Try.underlying26 ti4 rfl rfl hi93 (mgt Qae hj94) rfl), ag_ (ald_ rfl ti4 (by decide) (nle rfl) rfl), asb hb95 (ag_ (amv rfl)), trivial, trivial, trivial, trivial, trivial, trivial, trivial, ag_ (apk rfl rfl), apk rfl rfl, trivial⟩
        refine Qey (by kernel_rfl) ?_
        refine Qam ?_
        refine bln ?_
        refine thn ?_
        refine Qar [rp [(.tmp 41, I y80), ci 1] (I (w64 (y80 + 1))), mv 67 (I (w64 (y80 + 1)))] ?_ ?_
        ·exact ⟨abn rfl rfl, amv rfl, trivial⟩
        refine thn ?_
        exact arm (mto (n := 174) [(0, (.dat 4 ((p0 : List GNode).map Qaa))), (3, .ref 0 3 0 0), (40, (I ((p0.length : Int)))), (41, (I (w64 (y80 + 1))))] [0] [(.own 3 [[(.dat 2 ((p1.Use : List GMeter).map Qab)), (.dat 2 ((p1.Flow : List GMeter).map Qab)), (.dat 1 ((p1.Has : List Bool).map Qae))]])] hφ0 (pc (.rn (.plain _ (nld Qag _))) (pc (.rn (rqr rfl)) (pc rwl (pc rwl pn)))) (qc (spb (lc (.rn (.plain _ (nld Qal _))) (lc (.rn (.plain _ (nld Qal _))) (lc (.rn (.plain _ (nld Qbd _))) ln)))) qn)) (ih (w64 (y80 + 1)) h)
     ·replace h := Qaw hc83 h
      refine wfn hc83 (by kernel_rfl) ?_
      refine Qbf ?_
      refine Qau ?_
      refine Qau ?_
      refine Qbe rfl ?_
      refine thn ?_
      exact ⟨(), h, (mto (n := 174) [(0, (.dat 4 ((p0 : List GNode).map Qaa))), (3, .ref 0 3 0 0)] [0] [(.own 3 [[(.dat 2 ((p1.Use : List GMeter).map Qab)), (.dat 2 ((p1.Flow : List GMeter).map Qab)), (.dat 1 ((p1.Has : List Bool).map Qae))]])] hφ0 (pc (.rn (.plain _ (nld Qag _))) (pc (.rn (rqr rfl)) pn)) (qc (spb (lc (.rn (.plain _ (nld Qal _))) (lc (.rn (.plain _ (nld Qal _))) (lc (.rn (.plain _ (nld Qbd _))) ln)))) qn))⟩
   ·skip
    rcases bft (((p1.Use.length : Int) != (p0.length : Int))) with hb103 | hb103
    ·replace h := Qav hb103 h
     refine wrg [rb [(.tmp 3, .ref 0 3 0 0)] [(0, (.own 3 [[(.dat 2 ((p1.Use : List GMeter).map Qab)), (.dat 2 ((p1.Flow : List GMeter).map Qab)), (.dat 1 ((p1.Has : List Bool).map Qae))]]))] (.ref 0 3 0 0), rb [(.tmp 17, .ref 0 3 0 0)] [(0, (.own 3 [[(.dat 2 ((p1.Use : List GMeter).map Qab)), (.dat 2 ((p1.Flow : List GMeter).map Qab)), (.dat 1 ((p1.Has : List Bool).map Qae))]]))] (.dat 2 ((p1.Use : List GMeter).map Qab)), rp [(.tmp 18, (.dat 2 ((p1.Use : List GMeter).map Qab)))] (I ((p1.Use.length : Int))), mv 0 (.dat 4 ((p0 : List GNode).map Qaa)), rp [(.tmp 20, (.dat 4 ((p0 : List GNode).map Qaa)))] (I ((p0.length : Int))), rp [(.tmp 19, (I ((p1.Use.length : Int)))), (.tmp 21, (I ((p0.length : Int))))] (B (((p1.Use.length : Int) != (p0.length : Int)))), rp [(.tmp 22, (B (((p1.Use.length : Int) != (p0.length : Int)))))] (B true), sk 23 (B true), sk 23 (B true), sk 23 (B true), sk 23 (B true), sk 23 (B true), sk 23 (B true), rp [(.tmp 23, B true), cb true, (.tmp 29, (.lit undef))] (B true), mv 30 (B true), sk 31 (B true), sk 31 (B true), sk 31 (B true), sk 31 (B true), sk 31 (B true), sk 31 (B true), rp [(.tmp 31, B true), cb true, (.tmp 37, (.lit undef))] (B true)] ?_ ?_
     ·exact ⟨afa rfl Try.underlying105 rfl rfl Qfg (by decide) rfl, ald rfl Qfg (by decide) rfl (nle rfl) rfl, alm (c := Qab) (l := p1.Use) (aln rfl Try.underlying103 rfl), amv rfl, alm (c := Qaa) (l := p0) (aln rfl Try.underlying31 rfl), abn rfl rfl, asb hb103 (amv rfl), trivial, trivial, trivial, trivial, trivial, trivial, apk rfl rfl, amv rfl, trivial, trivial, trivial, trivial, trivial, trivial, apk rfl rfl, trivial⟩
     refine Qbq (by kernel_rfl) ?_
     refine wrg [mc (.slice none 0 0), mc (.int .i64 2)] ?_ ?_
     ·exact ⟨aas rfl, aas rfl, trivial⟩
     refine wmr (mto (n := 174) (l' := [(4, (.dat 2 (([] : List GRange).map Qai))), (5, I 2)]) (own' := []) [(4, nilS), (5, I 2)] [] [] hφ0 (pc (.nil _) (pc rwl pn)) qn) ?_
     refine Qak ?_
     refine Qao ?_
     obtain rfl := osi h
     exact ⟨_, Mor.rfl, Qc0 (vs := [(.dat 2 (([] : List GRange).map Qai)), I 2]) ⟨rot (by kernel_rfl), rot (by kernel_rfl), trivial⟩ rfl (NLt.tup _ (nlc (nld Qbo _) (nlc nll nl0))) (by kernel_rfl) Qbx⟩
    ·replace h := Qaw hb103 h
     rcases bft (((p1.Flow.length : Int) != (p0.length : Int))) with hb104 | hb104
     ·replace h := Qav hb104 h
      refine wrg [rb [(.tmp 3, .ref 0 3 0 0)] [(0, (.own 3 [[(.dat 2 ((p1.Use : List GMeter).map Qab)), (.dat 2 ((p1.Flow : List GMeter).map Qab)), (.dat 1 ((p1.Has : List Bool).map Qae))]]))] (.ref 0 3 0 0), rb [(.tmp 17, .ref 0 3 0 0)] [(0, (.own 3 [[(.dat 2 ((p1.Use : List GMeter).map Qab)), (.dat 2 ((p1.Flow : List GMeter).map Qab)), (.dat 1 ((p1.Has : List Bool).map Qae))]]))] (.dat 2 ((p1.Use : List GMeter).map Qab)), rp [(.tmp 18, (.dat 2 ((p1.Use : List GMeter).map Qab)))] (I ((p1.Use.length : Int))), mv 0 (.dat 4 ((p0 : List GNode).map Qaa)), rp [(.tmp 20, (.dat 4 ((p0 : List GNode).map Qaa)))] (I ((p0.length : Int))), rp [(.tmp 19, (I ((p1.Use.length : Int)))), (.tmp 21, (I ((p0.length : Int))))] (B (((p1.Use.length : Int) != (p0.length : Int)))), rp [(.tmp 22, (B (((p1.Use.length : Int) != (p0.length : Int)))))] (B false), rb [(.tmp 23, B false), (.tmp 3, .ref 0 3 0 0)] [(0, (.own 3 [[(.dat 2 ((p1.Use : List GMeter).map Qab)), (.dat 2 ((p1.Flow : List GMeter).map Qab)), (.dat 1 ((p1.Has : List Bool).map Qae))]]))] (.ref 0 3 0 1), rb [(.tmp 23, B false), (.tmp 24, .ref 0 3 0 1)] [(0, (.own 3 [[(.dat 2 ((p1.Use : List GMeter).map Qab)), (.dat 2 ((p1.Flow : List GMeter).map Qab)), (.dat 1 ((p1.Has : List Bool).map Qae))]]))] (.dat 2 ((p1.Flow : List GMeter).map Qab)), rp [(.tmp 23, B false), (.tmp 25, (.dat 2 ((p1.Flow : List GMeter).map Qab)))] (I ((p1.Flow.length : Int))), rp [(.tmp 23, B false), (.tmp 0, (.dat 4 ((p0 : List GNode).map Qaa)))] (.dat 4 ((p0 : List GNode).map Qaa)), rp [(.tmp 23, B false), (.tmp 27, (.dat 4 ((p0 : List GNode).map Qaa)))] (I ((p0.length : Int))), rp [(.tmp 23, B false), (.tmp 26, (I ((p1.Flow.length : Int)))), (.tmp 28, (I ((p0.length : Int))))] (B (((p1.Flow.length : Int) != (p0.length : Int)))), rp [(.tmp 23, B false), cb true, (.tmp 29, (B (((p1.Flow.length : Int) != (p0.length : Int)))))] (B (((p1.Flow.length : Int) != (p0.length : Int)))), rp [(.tmp 30, (B (((p1.Flow.length : Int) != (p0.length : Int)))))] (B true), sk 31 (B true), sk 31 (B true), sk 31 (B true), sk 31 (B true), sk 31 (B true), sk 31 (B true), rp [(.tmp 31, B true), cb true, (.tmp 37, (.lit undef))] (B true)] ?_ ?_
      ·exact ⟨afa rfl Try.underlying105 rfl rfl Qfg (by decide) rfl, ald rfl Qfg (by decide) rfl (nle rfl) rfl, alm (c := Qab) (l := p1.Use) (aln rfl Try.underlying103 rfl), amv rfl, alm (c := Qaa) (l := p0) (aln rfl Try.underlying31 rfl), abn rfl rfl, asb hb103 (amv rfl), ag_ (afa rfl Try.underlying105 rfl rfl Qfg (by decide) rfl), ag_ (ald rfl Qfg (by decide) rfl (nle rfl) rfl), ag_ (alm (c := Qab) (l := p1.Flow) (aln rfl Try.underlying103 rfl)), ag_ (amv rfl), ag_ (alm (c := Qaa) (l := p0) (aln rfl Try.underlying31 rfl)), ag_ (abn rfl rfl), apk rfl rfl, asb hb104 (amv rfl), trivial, trivial, trivial, trivial, trivial, trivial, apk rfl rfl, trivial⟩
      refine Qbq (by kernel_rfl) ?_
      refine wrg [mc (.slice none 0 0), mc (.int .i64 2)] ?_ ?_
      ·exact ⟨aas rfl, aas rfl, trivial⟩
      refine wmr (mto (n := 174) (l' := [(4, (.dat 2 (([] : List GRange).map Qai))), (5, I 2)]) (own' := []) [(4, nilS), (5, I 2)] [] [] hφ0 (pc (.nil _) (pc rwl pn)) qn) ?_
      refine Qak ?_
      refine Qao ?_
      obtain rfl := osi h
      exact ⟨_, Mor.rfl, Qc0 (vs := [(.dat 2 (([] : List GRange).map Qai)), I 2]) ⟨rot (by kernel_rfl), rot (by kernel_rfl), trivial⟩ rfl (NLt.tup _ (nlc (nld Qbo _) (nlc nll nl0))) (by kernel_rfl) Qbx⟩
     ·replace h := Qaw hb104 h
      refine wrg [rb [(.tmp 3, .ref 0 3 0 0)] [(0, (.own 3 [[(.dat 2 ((p1.Use : List GMeter).map Qab)), (.dat 2 ((p1.Flow : List GMeter).map Qab)), (.dat 1 ((p1.Has : List Bool).map Qae))]]))] (.ref 0 3 0 0), rb [(.tmp 17, .ref 0 3 0 0)] [(0, (.own 3 [[(.dat 2 ((p1.Use : List GMeter).map Qab)), (.dat 2 ((p1.Flow : List GMeter).map Qab)), (.dat 1 ((p1.Has : List Bool).map Qae))]]))] (.dat 2 ((p1.Use : List GMeter).map Qab)), rp [(.tmp 18, (.dat 2 ((p1.Use : List GMeter).map Qab)))] (I ((p1.Use.length : Int))), mv 0 (.dat 4 ((p0 : List GNode).map Qaa)), rp [(.tmp 20, (.dat 4 ((p0 : List GNode).map Qaa)))] (I ((p0.length : Int))), rp [(.tmp 19, (I ((p1.Use.length : Int)))), (.tmp 21, (I ((p0.length : Int))))] (B (((p1.Use.length : Int) != (p0.length : Int)))), rp [(.tmp 22, (B (((p1.Use.length : Int) != (p0.length : Int)))))] (B false), rb [(.tmp 23, B false), (.tmp 3, .ref 0 3 0 0)] [(0, (.own 3 [[(.dat 2 ((p1.Use : List GMeter).map Qab)), (.dat 2 ((p1.Flow : List GMeter).map Qab)), (.dat 1 ((p1.Has : List Bool).map Qae))]]))] (.ref 0 3 0 1), rb [(.tmp 23, B false), (.tmp 24, .ref 0 3 0 1)] [(0, (.own 3 [[(.dat 2 ((p1.Use : List GMeter).map Qab)), (.dat 2 ((p1.Flow : List GMeter).map Qab)), (.dat 1 ((p1.Has : List Bool).map Qae))]]))] (.dat 2 ((p1.Flow : List GMeter).map Qab)), rp [(.tmp 23, B false), (.tmp 25, (.dat 2 ((p1.Flow : List GMeter).map Qab)))] (I ((p1.Flow.length : Int))), rp [(.tmp 23, B false), (.tmp 0, (.dat 4 ((p0 : List GNode).map Qaa)))] (.dat 4 ((p0 : List GNode).map Qaa)), rp [(.tmp 23, B false), (.tmp 27, (.dat 4 ((p0 : List GNode).map Qaa)))] (I ((p0.length : Int))), rp [(.tmp 23, B false), (.tmp 26, (I ((p1.Flow.length : Int)))), (.tmp 28, (I ((p0.length : Int))))] (B (((p1.Flow.length : Int) != (p0.length : Int)))), rp [(.tmp 23, B false), cb true, (.tmp 29, (B (((p1.Flow.length : Int) != (p0.length : Int)))))] (B (((p1.Flow.length : Int) != (p0.length : Int)))), rp [(.tmp 30, (B (((p1.Flow.length : Int) != (p0.length : Int)))))] (B false), rb [(.tmp 31, B false), (.tmp 3, .ref 0 3 0 0)] [(0, (.own 3 [[(.dat 2 ((p1.Use : List GMeter).map Qab)), (.dat 2 ((p1.Flow : List GMeter).map Qab)), (.dat 1 ((p1.Has : List Bool).map Qae))]]))] (.ref 0 3 0 2), rb [(.tmp 31, B false), (.tmp 32, .ref 0 3 0 2)] [(0, (.own 3 [[(.dat 2 ((p1.Use : List GMeter).map Qab)), (.dat 2 ((p1.Flow : List GMeter).map Qab)), (.dat 1 ((p1.Has : List Bool).map Qae))]]))] (.dat 1 ((p1.Has : List Bool).map Qae)), rp [(.tmp 31, B false), (.tmp 33, (.dat 1 ((p1.Has : List Bool).map Qae)))] (I ((p1.Has.length : Int))), rp [(.tmp 31, B false), (.tmp 0, (.dat 4 ((p0 : List GNode).map Qaa)))] (.dat 4 ((p0 : List GNode).map Qaa)), rp [(.tmp 31, B false), (.tmp 35, (.dat 4 ((p0 : List GNode).map Qaa)))] (I ((p0.length : Int))), rp [(.tmp 31, B false), (.tmp 34, (I ((p1.Has.length : Int)))), (.tmp 36, (I ((p0.length : Int))))] (B (((p1.Has.length : Int) != (p0.length : Int)))), rp [(.tmp 31, B false), cb true, (.tmp 37, (B (((p1.Has.length : Int) != (p0.length : Int)))))] (B (((p1.Has.length : Int) != (p0.length : Int))))] ?_ ?_
      ·exact ⟨afa rfl Try.underlying105 rfl rfl Qfg (by decide) rfl, ald rfl Qfg (by decide) rfl (nle rfl) rfl, alm (c := Qab) (l := p1.Use) (aln rfl Try.underlying103 rfl), amv rfl, alm (c := Qaa) (l := p0) (aln rfl Try.underlying31 rfl), abn rfl rfl, asb hb103 (amv rfl), ag_ (afa rfl Try.underlying105 rfl rfl Qfg (by decide) rfl), ag_ (ald rfl Qfg (by decide) rfl (nle rfl) rfl), ag_ (alm (c := Qab) (l := p1.Flow) (aln rfl Try.underlying103 rfl)), ag_ (amv rfl), ag_ (alm (c := Qaa) (l := p0) (aln rfl Try.underlying31 rfl)), ag_ (abn rfl rfl), apk rfl rfl, asb hb104 (amv rfl), ag_ (afa rfl Try.underlying105 rfl rfl ti26 (by decide) rfl), ag_ (ald rfl ti26 (by decide) rfl (nle rfl) rfl), ag_ (alm (c := Qae) (l := p1.Has) (aln rfl Try.underlying26 rfl)), ag_ (amv rfl), ag_ (alm (c := Qaa) (l := p0) (aln rfl Try.underlying31 rfl)), ag_ (abn rfl rfl), apk rfl rfl, trivial⟩
      rcases bft (((p1.Has.length : Int) != (p0.length : Int))) with hc105 | hc105
      ·replace h := Qav hc105 h
       refine wft hc105 (by kernel_rfl) ?_
       refine wrg [mc (.slice none 0 0), mc (.int .i64 2)] ?_ ?_
       ·exact ⟨aas rfl, aas rfl, trivial⟩
       refine wmr (mto (n := 174) (l' := [(4, (.dat 2 (([] : List GRange).map Qai))), (5, I 2)]) (own' := []) [(4, nilS), (5, I 2)] [] [] hφ0 (pc (.nil _) (pc rwl pn)) qn) ?_
       refine Qak ?_
       refine Qao ?_
       obtain rfl := osi h
       exact ⟨_, Mor.rfl, Qc0 (vs := [(.dat 2 (([] : List GRange).map Qai)), I 2]) ⟨rot (by kernel_rfl), rot (by kernel_rfl), trivial⟩ rfl (NLt.tup _ (nlc (nld Qbo _) (nlc nll nl0))) (by kernel_rfl) Qbx⟩
      ·replace h := Qaw hc105 h
       refine wfn hc105 (by kernel_rfl) ?_
       refine Qam ?_
       refine thn ?_
       exact ⟨(), h, (mto (n := 174) [(0, (.dat 4 ((p0 : List GNode).map Qaa))), (3, .ref 0 3 0 0)] [0] [(.own 3 [[(.dat 2 ((p1.Use : List GMeter).map Qab)), (.dat 2 ((p1.Flow : List GMeter).map Qab)), (.dat 1 ((p1.Has : List Bool).map Qae))]])] hφ0 (pc (.rn (.plain _ (nld Qag _))) (pc (.rn (rqr rfl)) pn)) (qc (spb (lc (.rn (.plain _ (nld Qal _))) (lc (.rn (.plain _ (nld Qal _))) (lc (.rn (.plain _ (nld Qbd _))) ln)))) qn))⟩

def Qe5 (N : Nat) (rec_o : (List GNode) → GMeters → Int → Option GRange) (p0 : (List GNode)) (p1 : GMeters) (p2 : Int) : Option GRange :=
  (getI p1.Has p2).bind fun x1 =>
  bif x1 then
   (getI p1.Flow p2).bind fun x6 =>
   (Qea N x6).bind fun x11 =>
   some x11
  else
   (rec_o p0 p1 p2).bind fun x13 =>
   some x13
set_option maxRecDepth 100000 in
set_option maxHeartbeats 4000000 in
theorem Qic (N : Nat) (rec_o : (List GNode) → GMeters → Int → Option GRange) (ihO : ∀ (p0 : (List GNode)) (p1 : GMeters) (p2 : Int) (r : GRange) (_ : rec_o p0 p1 p2 = some r), Spec Try.prog 87 [(.dat 4 (p0.map Qaa)), (.agg (Qfi p1)), (I p2)] [] (.agg (Qai r)) []) (p0 : (List GNode)) (p1 : GMeters) (p2 : Int) (r : GRange) (h : Qe5 N rec_o p0 p1 p2 = some r) : Spec Try.prog 106 [(.dat 4 (p0.map Qaa)), (.agg (Qfi p1)), (I p2)] [] (.agg (Qai r)) [] := by
  refine Qaq Try.func106 rfl 0 (nle rfl) (fun X φ0 w0 hφ0 => ?_)
  unfold Qe5 at h
  refine wrg [⟨[(.tmp 1, (.agg [(.dat 2 ((p1.Use : List GMeter).map Qab)), (.dat 2 ((p1.Flow : List GMeter).map Qab)), (.dat 1 ((p1.Has : List Bool).map Qae))]))], [(0, .unused)], .ref 0 3 0 0, [(0, (.own 3 [[(.dat 2 ((p1.Use : List GMeter).map Qab)), (.dat 2 ((p1.Flow : List GMeter).map Qab)), (.dat 1 ((p1.Has : List Bool).map Qae))]]))], false⟩, ⟨[], [(1, .unused)], .ref 1 2 0 0, [(1, .own 2 [[I 0, I 0]])], false⟩] ?_ ?_
  ·exact ⟨Qbu rfl (by rfl) rfl rfl, Qaz rfl tz98 rfl, trivial⟩
  refine wsq ?_
  obtain ⟨x1, hg2, h⟩ := bno h
  obtain ⟨hi3, hj4⟩ := gsm hg2
  refine wrg [rb [(.tmp 4, .ref 0 3 0 0)] [(0, (.own 3 [[(.dat 2 ((p1.Use : List GMeter).map Qab)), (.dat 2 ((p1.Flow : List GMeter).map Qab)), (.dat 1 ((p1.Has : List Bool).map Qae))]]))] (.ref 0 3 0 2), rb [(.tmp 7, .ref 0 3 0 2)] [(0, (.own 3 [[(.dat 2 ((p1.Use : List GMeter).map Qab)), (.dat 2 ((p1.Flow : List GMeter).map Qab)), (.dat 1 ((p1.Has : List Bool).map Qae))]]))] (.dat 1 ((p1.Has : List Bool).map Qae)), mv 2 (I p2), rp [(.tmp 8, (.dat 1 ((p1.Has : List Bool).map Qae))), (.tmp 9, I p2)] (.dptr (Qae (x1)) 0), rp [(.tmp 10, (.dptr (Qae (x1)) 0))] (B x1)] ?_ ?_
  ·exact ⟨afa rfl Try.underlying89 rfl rfl ti26 (by decide) rfl, ald rfl ti26 (by decide) rfl (nle rfl) rfl, amv rfl, aid rfl Try.underlying26 ti4 rfl rfl hi3 (mgt Qae hj4) rfl, ald_ rfl ti4 (by decide) (nle rfl) rfl, trivial⟩
  rcases bft (x1) with hc5 | hc5
  ·replace h := Qav hc5 h
   refine wft hc5 (by kernel_rfl) ?_
   obtain ⟨x6, hg7, h⟩ := bno h
   obtain ⟨hi8, hj9⟩ := gsm hg7
   obtain ⟨x11, hf10, h⟩ := bno h
   refine wrg [rb [(.tmp 4, .ref 0 3 0 0)] [(0, (.own 3 [[(.dat 2 ((p1.Use : List GMeter).map Qab)), (.dat 2 ((p1.Flow : List GMeter).map Qab)), (.dat 1 ((p1.Has : List Bool).map Qae))]]))] (.ref 0 3 0 1), rb [(.tmp 12, .ref 0 3 0 1)] [(0, (.own 3 [[(.dat 2 ((p1.Use : List GMeter).map Qab)), (.dat 2 ((p1.Flow : List GMeter).map Qab)), (.dat 1 ((p1.Has : List Bool).map Qae))]]))] (.dat 2 ((p1.Flow : List GMeter).map Qab)), mv 2 (I p2), rp [(.tmp 13, (.dat 2 ((p1.Flow : List GMeter).map Qab))), (.tmp 14, I p2)] (.dptr (Qab (x6)) 0), rp [(.tmp 15, (.dptr (Qab (x6)) 0))] (.agg [I x6.Reading, I x6.Off]), rp [fu 49, (.tmp 16, (.agg [I x6.Reading, I x6.Off]))] (.agg [I x11.Lo, I x11.Hi]), ⟨[(.tmp 6, .ref 1 2 0 0), (.tmp 17, (.agg [I x11.Lo, I x11.Hi]))], [(1, .own 2 [[I 0, I 0]])], .any, [(1, .own 2 [[I x11.Lo, I x11.Hi]])], false⟩] ?_ ?_
   ·exact ⟨afa rfl Try.underlying89 rfl rfl ti87 (by decide) rfl, ald rfl ti87 (by decide) rfl (nle rfl) rfl, amv rfl, aid rfl Try.underlying87 ti91 rfl rfl hi8 (mgt Qab hj9) rfl, ald_ rfl ti91 (by decide) (nle rfl) rfl, apc (first := []) (cap := []) (vs := [(.agg [I x6.Reading, I x6.Off])]) rfl enter49 (Qfb N x6 _ hf10) rfl rfl (nlc (NLt.agg _ (nlc nll (nlc nll nl0))) nl0) (NLt.agg _ (nlc nll (nlc nll nl0))) rfl, ast rfl ti98 (by rfl) rfl (nle rfl) rfl, trivial⟩
   refine Qak ?_
   refine Qao ?_
   obtain rfl := osi h
   exact ⟨⟨[(.agg [I x11.Lo, I x11.Hi])], ⟨Qds (n := 1) (m := 2) (j := 0) (i := 0) (xs := [[I x11.Lo, I x11.Hi]]) (by kernel_rfl) (by kernel_rfl) ti98 (by decide) rfl (nle rfl) rfl, trivial⟩, rfl⟩, (NLt.agg _ (nlc nll (nlc nll nl0))), Nat.le_refl _, fun n hn => absurd hn (Nat.not_lt_zero n)⟩
  ·replace h := Qaw hc5 h
   refine wfn hc5 (by kernel_rfl) ?_
   refine Qam ?_
   refine thn ?_
   obtain ⟨x13, hf12, h⟩ := bno h
   refine wrg [mv 0 (.dat 4 ((p0 : List GNode).map Qaa)), rb [(.tmp 4, .ref 0 3 0 0)] [(0, (.own 3 [[(.dat 2 ((p1.Use : List GMeter).map Qab)), (.dat 2 ((p1.Flow : List GMeter).map Qab)), (.dat 1 ((p1.Has : List Bool).map Qae))]]))] (.agg [(.dat 2 ((p1.Use : List GMeter).map Qab)), (.dat 2 ((p1.Flow : List GMeter).map Qab)), (.dat 1 ((p1.Has : List Bool).map Qae))]), mv 2 (I p2), rp [fu 87, (.tmp 18, (.dat 4 ((p0 : List GNode).map Qaa))), (.tmp 19, (.agg [(.dat 2 ((p1.Use : List GMeter).map Qab)), (.dat 2 ((p1.Flow : List GMeter).map Qab)), (.dat 1 ((p1.Has : List Bool).map Qae))])), (.tmp 20, I p2)] (.agg [I x13.Lo, I x13.Hi]), ⟨[(.tmp 6, .ref 1 2 0 0), (.tmp 21, (.agg [I x13.Lo, I x13.Hi]))], [(1, .own 2 [[I 0, I 0]])], .any, [(1, .own 2 [[I x13.Lo, I x13.Hi]])], false⟩] ?_ ?_
   ·exact ⟨amv rfl, ald rfl ti89 (by decide) rfl (nle rfl) rfl, amv rfl, apc (first := []) (cap := []) (vs := [(.dat 4 ((p0 : List GNode).map Qaa)), (.agg [(.dat 2 ((p1.Use : List GMeter).map Qab)), (.dat 2 ((p1.Flow : List GMeter).map Qab)), (.dat 1 ((p1.Has : List Bool).map Qae))]), I p2]) rfl enter87 (ihO p0 p1 p2 _ hf12) rfl rfl (nlc (nld Qag _) (nlc (NLt.agg _ (nlc (nld Qal _) (nlc (nld Qal _) (nlc (nld Qbd _) nl0)))) (nlc nll nl0))) (NLt.agg _ (nlc nll (nlc nll nl0))) rfl, ast rfl ti98 (by rfl) rfl (nle rfl) rfl, trivial⟩
   refine Qak ?_
   obtain rfl := osi h
   exact ⟨⟨[(.agg [I x13.Lo, I x13.Hi])], ⟨Qds (n := 1) (m := 2) (j := 0) (i := 0) (xs := [[I x13.Lo, I x13.Hi]]) (by kernel_rfl) (by kernel_rfl) ti98 (by decide) rfl (nle rfl) rfl, trivial⟩, rfl⟩, (NLt.agg _ (nlc nll (nlc nll nl0))), Nat.le_refl _, fun n hn => absurd hn (Nat.not_lt_zero n)⟩

def Qcq (N : Nat) (p0 : (List GNode)) (rec_ : ((List GNode) → GMeters → Int → Option GRange)) (p1 : GMeters) (p2 : Int) (k9 : Int × Int → Option GRange) : Nat → Int → Int → Int → Option GRange
  | 0, _, _, _ => none
  | n28 + 1, y22, y23, y24 =>
    bif (decide (y22 < (p0.length : Int))) then
     (getI p0 y22).bind fun x30 =>
     bif (x30.Parent == p2) then
      (Qe5 N rec_ p0 p1 y22).bind fun x36 =>
      Qcq N p0 rec_ p1 p2 k9 n28 (w64 (y22 + 1)) (w64 (y23 + x36.Lo)) (w64 (y24 + x36.Hi))
     else
      Qcq N p0 rec_ p1 p2 k9 n28 (w64 (y22 + 1)) y23 y24
    else
     k9 (y23, y24)
def Qee (N : Nat) (rec_ : (List GNode) → GMeters → Int → Option GRange) (p0 : (List GNode)) (p1 : GMeters) (p2 : Int) : Option GRange :=
  (getI p1.Use p2).bind fun x1 =>
  (Qea N x1).bind fun x6 =>
  Qca (fun ⟨y7, y8⟩ =>
    Qca (fun y10 =>
      bif (decide (y8 > 0)) then
       (getI p0 p2).bind fun x13 =>
       some (⟨y10, w64 (y8 + x13.Loss)⟩ : GRange)
      else
       some (⟨y10, y8⟩ : GRange)) fun k11 : Int → Option GRange =>
    bif (decide (y7 > 0)) then
     (getI p0 p2).bind fun x18 =>
     k11 (w64 (y7 + x18.Loss))
    else
     k11 (y7)) fun k9 : Int × Int → Option GRange =>
  Qcq N p0 rec_ p1 p2 k9 N (w64 (p2 + 1)) x6.Lo x6.Hi
def Qdw : Nat → (List GNode) → GMeters → Int → Option GRange
  | 0, _, _, _ => none
  | N + 1, p0, p1, p2 => Qee N (Qdw N) p0 p1 p2
set_option maxRecDepth 100000 in
set_option maxHeartbeats 4000000 in
theorem Qi7 : ∀ (N : Nat) (p0 : (List GNode)) (p1 : GMeters) (p2 : Int) (r : GRange) (_ : Qdw N p0 p1 p2 = some r), Spec Try.prog 87 [(.dat 4 (p0.map Qaa)), (.agg (Qfi p1)), (I p2)] [] (.agg (Qai r)) [] := by
  intro N
  induction N with
  | zero => intro p0 p1 p2 r h; exact nomatch (show (none : Option GRange) = some r from h)
  | succ N ihX =>
  intro p0 p1 p2 r h
  replace h : Qee N (Qdw N) p0 p1 p2 = some r := h
  refine Qaq Try.func87 rfl 0 (nle rfl) (fun X φ0 w0 hφ0 => ?_)
  unfold Qee at h
  refine wrg [⟨[(.tmp 1, (.agg [(.dat 2 ((p1.Use : List GMeter).map Qab)), (.dat 2 ((p1.Flow : List GMeter).map Qab)), (.dat 1 ((p1.Has : List Bool).map Qae))]))], [(0, .unused)], .ref 0 3 0 0, [(0, (.own 3 [[(.dat 2 ((p1.Use : List GMeter).map Qab)), (.dat 2 ((p1.Flow : List GMeter).map Qab)), (.dat 1 ((p1.Has : List Bool).map Qae))]]))], false⟩, ⟨[], [(1, .unused)], .ref 1 2 0 0, [(1, .own 2 [[I 0, I 0]])], false⟩] ?_ ?_
  ·exact ⟨Qbu rfl (by rfl) rfl rfl, Qaz rfl tz98 rfl, trivial⟩
  obtain ⟨x1, hg2, h⟩ := bno h
  obtain ⟨hi3, hj4⟩ := gsm hg2
  obtain ⟨x6, hf5, h⟩ := bno h
  refine wrg [rb [(.tmp 4, .ref 0 3 0 0)] [(0, (.own 3 [[(.dat 2 ((p1.Use : List GMeter).map Qab)), (.dat 2 ((p1.Flow : List GMeter).map Qab)), (.dat 1 ((p1.Has : List Bool).map Qae))]]))] (.ref 0 3 0 0), rb [(.tmp 10, .ref 0 3 0 0)] [(0, (.own 3 [[(.dat 2 ((p1.Use : List GMeter).map Qab)), (.dat 2 ((p1.Flow : List GMeter).map Qab)), (.dat 1 ((p1.Has : List Bool).map Qae))]]))] (.dat 2 ((p1.Use : List GMeter).map Qab)), mv 2 (I p2), rp [(.tmp 11, (.dat 2 ((p1.Use : List GMeter).map Qab))), (.tmp 12, I p2)] (.dptr (Qab (x1)) 0), rp [(.tmp 13, (.dptr (Qab (x1)) 0))] (.agg [I x1.Reading, I x1.Off]), rp [fu 49, (.tmp 14, (.agg [I x1.Reading, I x1.Off]))] (.agg [I x6.Lo, I x6.Hi]), ⟨[], [(2, .unused)], .ref 2 2 0 0, [(2, .own 2 [[I 0, I 0]])], false⟩, ⟨[(.tmp 7, .ref 2 2 0 0), (.tmp 15, (.agg [I x6.Lo, I x6.Hi]))], [(2, .own 2 [[I 0, I 0]])], .any, [(2, .own 2 [[I x6.Lo, I x6.Hi]])], false⟩] ?_ ?_
  ·exact ⟨afa rfl Try.underlying89 rfl rfl ti87 (by decide) rfl, ald rfl ti87 (by decide) rfl (nle rfl) rfl, amv rfl, aid rfl Try.underlying87 ti91 rfl rfl hi3 (mgt Qab hj4) rfl, ald_ rfl ti91 (by decide) (nle rfl) rfl, apc (first := []) (cap := []) (vs := [(.agg [I x1.Reading, I x1.Off])]) rfl enter49 (Qfb N x1 _ hf5) rfl rfl (nlc (NLt.agg _ (nlc nll (nlc nll nl0))) nl0) (NLt.agg _ (nlc nll (nlc nll nl0))) rfl, Qaz rfl tz98 rfl, ast rfl ti98 (by rfl) rfl (nle rfl) rfl, trivial⟩
  obtain ⟨k9, hk_k9, h⟩ := jko h
  refine wjn (τ := Int × Int) (fun t => k9 t = some r) (fun ⟨y7, y8⟩ => ⟨mk 71 [(0, (.dat 4 ((p0 : List GNode).map Qaa))), (2, I p2), (6, .ref 0 2 0 0), (7, .ref 1 2 0 0)], [(.own 2 [[I 0, I 0]]), (.own 2 [[I y7, I y8]])]⟩) (fun t h => ?_) ?_
  ·subst hk_k9
   obtain ⟨y7, y8⟩ := t
   obtain ⟨k11, hk_k11, h⟩ := jko h
   refine wjn (τ := Int) (fun t => k11 t = some r) (fun y10 => ⟨mk 71 [(0, (.dat 4 ((p0 : List GNode).map Qaa))), (2, I p2), (6, .ref 0 2 0 0), (7, .ref 1 2 0 0)], [(.own 2 [[I 0, I 0]]), (.own 2 [[I y10, I y8]])]⟩) (fun y10 h => ?_) ?_
   ·subst hk_k11
    refine wsq ?_
    refine wrg [rb [(.tmp 7, .ref 1 2 0 0)] [(1, .own 2 [[I y10, I y8]])] (.ref 1 2 0 1), rb [(.tmp 58, .ref 1 2 0 1)] [(1, .own 2 [[I y10, I y8]])] (I y8), rp [(.tmp 59, I y8), ci 0] (B ((decide (y8 > 0))))] ?_ ?_
    ·exact ⟨afa rfl Try.underlying98 rfl rfl ti3 (by decide) rfl, ald rfl ti3 (by decide) rfl (nle rfl) rfl, abn rfl rfl, trivial⟩
    rcases bft ((decide (y8 > 0))) with hc12 | hc12
    ·replace h := Qav hc12 h
     refine wft hc12 (by kernel_rfl) ?_
     obtain ⟨x13, hg14, h⟩ := bno h
     obtain ⟨hi15, hj16⟩ := gsm hg14
     refine Qde [rb [(.tmp 7, .ref 1 2 0 0)] [(1, .own 2 [[I y10, I y8]])] (.ref 1 2 0 1), rb [(.tmp 61, .ref 1 2 0 1)] [(1, .own 2 [[I y10, I y8]])] (I y8), mv 0 (.dat 4 ((p0 : List GNode).map Qaa)), mv 2 (I p2), rp [(.tmp 63, (.dat 4 ((p0 : List GNode).map Qaa))), (.tmp 64, I p2)] (.dptr (Qaa (x13)) 0), rp [(.tmp 65, (.dptr (Qaa (x13)) 0))] (.dptr (Qaa (x13)) 1), rp [(.tmp 66, (.dptr (Qaa (x13)) 1))] (I x13.Loss), rp [(.tmp 62, I y8), (.tmp 67, I x13.Loss)] (I (w64 (y8 + x13.Loss))), rb [(.tmp 7, .ref 1 2 0 0)] [(1, .own 2 [[I y10, I y8]])] (.ref 1 2 0 1), ⟨[(.tmp 69, .ref 1 2 0 1), (.tmp 68, (I (w64 (y8 + x13.Loss))))], [(1, .own 2 [[I y10, I y8]])], .any, [(1, (.own 2 [[I y10, (I (w64 (y8 + x13.Loss)))]]))], false⟩] ?_ ?_
     ·exact ⟨afa rfl Try.underlying98 rfl rfl ti3 (by decide) rfl, ald rfl ti3 (by decide) rfl (nle rfl) rfl, amv rfl, amv rfl, aid rfl Try.underlying22 ti56 rfl rfl hi15 (mgt Qaa hj16) rfl, afd rfl Try.underlying56 rfl rfl ti3 (by decide) rfl, ald_ rfl ti3 (by decide) (nle rfl) rfl, abn rfl rfl, afa rfl Try.underlying98 rfl rfl ti3 (by decide) rfl, ast rfl ti3 (by rfl) rfl (nle rfl) rfl, trivial⟩
     refine thn ?_
     refine wrg [rb [(.tmp 7, .ref 1 2 0 0)] [(1, (.own 2 [[I y10, (I (w64 (y8 + x13.Loss)))]]))] (.agg [I y10, (I (w64 (y8 + x13.Loss)))]), ⟨[(.tmp 6, .ref 0 2 0 0), (.tmp 70, (.agg [I y10, (I (w64 (y8 + x13.Loss)))]))], [(0, .own 2 [[I 0, I 0]])], .any, [(0, (.own 2 [[I y10, (I (w64 (y8 + x13.Loss)))]]))], false⟩] ?_ ?_
     ·exact ⟨ald rfl ti98 (by decide) rfl (nle rfl) rfl, ast rfl ti98 (by rfl) rfl (nle rfl) rfl, trivial⟩
     refine Qak ?_
     obtain rfl := osi h
     exact ⟨⟨[(.agg [I y10, (I (w64 (y8 + x13.Loss)))])], ⟨Qds (n := 0) (m := 2) (j := 0) (i := 0) (xs := [[I y10, (I (w64 (y8 + x13.Loss)))]]) (by kernel_rfl) (by kernel_rfl) ti98 (by decide) rfl (nle rfl) rfl, trivial⟩, rfl⟩, (NLt.agg _ (nlc nll (nlc nll nl0))), Nat.le_refl _, fun n hn => absurd hn (Nat.not_lt_zero n)⟩
    ·replace h := Qaw hc12 h
     refine wfn hc12 (by kernel_rfl) ?_
     refine Qam ?_
     refine thn ?_
     refine wrg [rb [(.tmp 7, .ref 1 2 0 0)] [(1, .own 2 [[I y10, I y8]])] (.agg [I y10, I y8]), ⟨[(.tmp 6, .ref 0 2 0 0), (.tmp 70, (.agg [I y10, I y8]))], [(0, .own 2 [[I 0, I 0]])], .any, [(0, .own 2 [[I y10, I y8]])], false⟩] ?_ ?_
     ·exact ⟨ald rfl ti98 (by decide) rfl (nle rfl) rfl, ast rfl ti98 (by rfl) rfl (nle rfl) rfl, trivial⟩
     refine Qak ?_
     obtain rfl := osi h
     exact ⟨⟨[(.agg [I y10, I y8])], ⟨Qds (n := 0) (m := 2) (j := 0) (i := 0) (xs := [[I y10, I y8]]) (by kernel_rfl) (by kernel_rfl) ti98 (by decide) rfl (nle rfl) rfl, trivial⟩, rfl⟩, (NLt.agg _ (nlc nll (nlc nll nl0))), Nat.le_refl _, fun n hn => absurd hn (Nat.not_lt_zero n)⟩
   ·skip
    refine wrg [rb [(.tmp 7, .ref 1 2 0 0)] [(1, .own 2 [[I y7, I y8]])] (.ref 1 2 0 0), rb [(.tmp 46, .ref 1 2 0 0)] [(1, .own 2 [[I y7, I y8]])] (I y7), rp [(.tmp 47, I y7), ci 0] (B ((decide (y7 > 0))))] ?_ ?_
    ·exact ⟨afa rfl Try.underlying98 rfl rfl ti3 (by decide) rfl, ald rfl ti3 (by decide) rfl (nle rfl) rfl, abn rfl rfl, trivial⟩
    rcases bft ((decide (y7 > 0))) with hc17 | hc17
    ·replace h := Qav hc17 h
     refine wft hc17 (by kernel_rfl) ?_
     obtain ⟨x18, hg19, h⟩ := bno h
     obtain ⟨hi20, hj21⟩ := gsm hg19
     refine Qde [rb [(.tmp 7, .ref 1 2 0 0)] [(1, .own 2 [[I y7, I y8]])] (.ref 1 2 0 0), rb [(.tmp 49, .ref 1 2 0 0)] [(1, .own 2 [[I y7, I y8]])] (I y7), mv 0 (.dat 4 ((p0 : List GNode).map Qaa)), mv 2 (I p2), rp [(.tmp 51, (.dat 4 ((p0 : List GNode).map Qaa))), (.tmp 52, I p2)] (.dptr (Qaa (x18)) 0), rp [(.tmp 53, (.dptr (Qaa (x18)) 0))] (.dptr (Qaa (x18)) 1), rp [(.tmp 54, (.dptr (Qaa (x18)) 1))] (I x18.Loss), rp [(.tmp 50, I y7), (.tmp 55, I x18.Loss)] (I (w64 (y7 + x18.Loss))), rb [(.tmp 7, .ref 1 2 0 0)] [(1, .own 2 [[I y7, I y8]])] (.ref 1 2 0 0), ⟨[(.tmp 57, .ref 1 2 0 0), (.tmp 56, (I (w64 (y7 + x18.Loss))))], [(1, .own 2 [[I y7, I y8]])], .any, [(1, (.own 2 [[(I (w64 (y7 + x18.Loss))), I y8]]))], false⟩] ?_ ?_
     ·exact ⟨afa rfl Try.underlying98 rfl rfl ti3 (by decide) rfl, ald rfl ti3 (by decide) rfl (nle rfl) rfl, amv rfl, amv rfl, aid rfl Try.underlying22 ti56 rfl rfl hi20 (mgt Qaa hj21) rfl, afd rfl Try.underlying56 rfl rfl ti3 (by decide) rfl, ald_ rfl ti3 (by decide) (nle rfl) rfl, abn rfl rfl, afa rfl Try.underlying98 rfl rfl ti3 (by decide) rfl, ast rfl ti3 (by rfl) rfl (nle rfl) rfl, trivial⟩
     refine thn ?_
     exact ⟨(w64 (y7 + x18.Loss)), h, (mto (n := 71) [(0, (.dat 4 ((p0 : List GNode).map Qaa))), (2, I p2), (6, .ref 0 2 0 0), (7, .ref 1 2 0 0)] [0, 1] [(.own 2 [[I 0, I 0]]), (.own 2 [[(I (w64 (y7 + x18.Loss))), I y8]])] hφ0 (pc (.rn (.plain _ (nld Qag _))) (pc rwl (pc (.rn (rqr rfl)) (pc (.rn (rqr rfl)) pn)))) (qc (spb (lc rwl (lc rwl ln))) (qc (spb (lc rwl (lc rwl ln))) qn)))⟩
    ·replace h := Qaw hc17 h
     refine wfn hc17 (by kernel_rfl) ?_
     refine Qam ?_
     refine thn ?_
     exact ⟨(y7), h, (mto (n := 71) [(0, (.dat 4 ((p0 : List GNode).map Qaa))), (2, I p2), (6, .ref 0 2 0 0), (7, .ref 1 2 0 0)] [0, 1] [(.own 2 [[I 0, I 0]]), (.own 2 [[I y7, I y8]])] hφ0 (pc (.rn (.plain _ (nld Qag _))) (pc rwl (pc (.rn (rqr rfl)) (pc (.rn (rqr rfl)) pn)))) (qc (spb (lc rwl (lc rwl ln))) (qc (spb (lc rwl (lc rwl ln))) qn)))⟩
  ·skip
   refine wrg [mv 2 (I p2), rp [(.tmp 16, I p2), ci 1] (I (w64 (p2 + 1))), mv 17 (I (w64 (p2 + 1)))] ?_ ?_
   ·exact ⟨amv rfl, abn rfl rfl, aas rfl, trivial⟩
   refine Qan ?_
   refine wmr (mto (n := 71) (l' := [(0, (.dat 4 ((p0 : List GNode).map Qaa))), (2, I p2), (4, .ref 0 3 0 0), (6, .ref 1 2 0 0), (7, .ref 2 2 0 0), (8, (I ((w64 (p2 + 1)))))]) (own' := [(.own 3 [[(.dat 2 ((p1.Use : List GMeter).map Qab)), (.dat 2 ((p1.Flow : List GMeter).map Qab)), (.dat 1 ((p1.Has : List Bool).map Qae))]]), (.own 2 [[I 0, I 0]]), (.own 2 [[I x6.Lo, I x6.Hi]])]) [(0, (.dat 4 ((p0 : List GNode).map Qaa))), (2, I p2), (4, .ref 0 3 0 0), (6, .ref 1 2 0 0), (7, .ref 2 2 0 0), (8, (I (w64 (p2 + 1))))] [0, 1, 2] [(.own 3 [[(.dat 2 ((p1.Use : List GMeter).map Qab)), (.dat 2 ((p1.Flow : List GMeter).map Qab)), (.dat 1 ((p1.Has : List Bool).map Qae))]]), (.own 2 [[I 0, I 0]]), (.own 2 [[I x6.Lo, I x6.Hi]])] hφ0 (pc (.rn (.plain _ (nld Qag _))) (pc rwl (pc (.rn (rqr rfl)) (pc (.rn (rqr rfl)) (pc (.rn (rqr rfl)) (pc rwl pn)))))) (qc (spb (lc (.rn (.plain _ (nld Qal _))) (lc (.rn (.plain _ (nld Qal _))) (lc (.rn (.plain _ (nld Qbd _))) ln)))) (qc (spb (lc rwl (lc rwl ln))) (qc (spb (lc rwl (lc rwl ln))) qn)))) ?_
   refine Qcc (τ := Int × Int × Int) (fun n t => Qcq N p0 (Qdw N) p1 p2 k9 n t.1 t.2.1 t.2.2 = some r) (fun ⟨y22, y23, y24⟩ => ⟨mk 71 [(0, (.dat 4 ((p0 : List GNode).map Qaa))), (2, I p2), (4, .ref 0 3 0 0), (6, .ref 1 2 0 0), (7, .ref 2 2 0 0), (8, I y22)], [(.own 3 [[(.dat 2 ((p1.Use : List GMeter).map Qab)), (.dat 2 ((p1.Flow : List GMeter).map Qab)), (.dat 1 ((p1.Has : List Bool).map Qae))]]), (.own 2 [[I 0, I 0]]), (.own 2 [[I y23, I y24]])]⟩) (fun t h => by rw [Qcq] at h; cases h) (fun n28 ih t h => ?_) N (w64 (p2 + 1), x6.Lo, x6.Hi) h
   obtain ⟨y22, y23, y24⟩ := t
   rw [Qcq] at h
   skip
   refine wsq ?_
   refine wrg [mv 8 (I y22), mv 0 (.dat 4 ((p0 : List GNode).map Qaa)), rp [(.tmp 19, (.dat 4 ((p0 : List GNode).map Qaa)))] (I ((p0.length : Int))), rp [(.tmp 18, I y22), (.tmp 20, (I ((p0.length : Int))))] (B ((decide (y22 < (p0.length : Int)))))] ?_ ?_
   ·exact ⟨amv rfl, amv rfl, alm (c := Qaa) (l := p0) (aln rfl Try.underlying22 rfl), abn rfl rfl, trivial⟩
   rcases bft ((decide (y22 < (p0.length : Int)))) with hc29 | hc29
   ·replace h := Qav hc29 h
    refine wft hc29 (by kernel_rfl) ?_
    refine Qam ?_
    refine thn ?_
    refine wsq ?_
    refine Qan ?_
    obtain ⟨x30, hg31, h⟩ := bno h
    obtain ⟨hi32, hj33⟩ := gsm hg31
    refine wrg [mv 0 (.dat 4 ((p0 : List GNode).map Qaa)), mv 8 (I y22), rp [(.tmp 24, (.dat 4 ((p0 : List GNode).map Qaa))), (.tmp 25, I y22)] (.dptr (Qaa (x30)) 0), mv 26 (.dptr (Qaa (x30)) 0), rp [(.tmp 27, (.dptr (Qaa (x30)) 0))] (I x30.Parent), mv 2 (I p2), rp [(.tmp 28, I x30.Parent), (.tmp 29, I p2)] (B ((x30.Parent == p2)))] ?_ ?_
    ·exact ⟨amv rfl, amv rfl, aid rfl Try.underlying22 ti56 rfl rfl hi32 (mgt Qaa hj33) rfl, afd rfl Try.underlying56 rfl rfl ti3 (by decide) rfl, ald_ rfl ti3 (by decide) (nle rfl) rfl, amv rfl, abn rfl rfl, trivial⟩
    rcases bft ((x30.Parent == p2)) with hc34 | hc34
    ·replace h := Qav hc34 h
     refine wft hc34 (by kernel_rfl) ?_
     obtain ⟨x36, hf35, h⟩ := bno h
     refine wrg [mv 0 (.dat 4 ((p0 : List GNode).map Qaa)), rb [(.tmp 4, .ref 0 3 0 0)] [(0, (.own 3 [[(.dat 2 ((p1.Use : List GMeter).map Qab)), (.dat 2 ((p1.Flow : List GMeter).map Qab)), (.dat 1 ((p1.Has : List Bool).map Qae))]]))] (.agg [(.dat 2 ((p1.Use : List GMeter).map Qab)), (.dat 2 ((p1.Flow : List GMeter).map Qab)), (.dat 1 ((p1.Has : List Bool).map Qae))]), mv 8 (I y22), rp [fu 106, (.tmp 31, (.dat 4 ((p0 : List GNode).map Qaa))), (.tmp 32, (.agg [(.dat 2 ((p1.Use : List GMeter).map Qab)), (.dat 2 ((p1.Flow : List GMeter).map Qab)), (.dat 1 ((p1.Has : List Bool).map Qae))])), (.tmp 33, I y22)] (.agg [I x36.Lo, I x36.Hi]), ⟨[], [(3, .unused)], .ref 3 2 0 0, [(3, .own 2 [[I 0, I 0]])], false⟩, ⟨[(.tmp 9, .ref 3 2 0 0), (.tmp 34, (.agg [I x36.Lo, I x36.Hi]))], [(3, .own 2 [[I 0, I 0]])], .any, [(3, .own 2 [[I x36.Lo, I x36.Hi]])], false⟩] ?_ ?_
     ·exact ⟨amv rfl, ald rfl ti89 (by decide) rfl (nle rfl) rfl, amv rfl, apc (first := []) (cap := []) (vs := [(.dat 4 ((p0 : List GNode).map Qaa)), (.agg [(.dat 2 ((p1.Use : List GMeter).map Qab)), (.dat 2 ((p1.Flow : List GMeter).map Qab)), (.dat 1 ((p1.Has : List Bool).map Qae))]), I y22]) rfl enter106 (Qic N (Qdw N) ihX p0 p1 y22 _ hf35) rfl rfl (nlc (nld Qag _) (nlc (NLt.agg _ (nlc (nld Qal _) (nlc (nld Qal _) (nlc (nld Qbd _) nl0)))) (nlc nll nl0))) (NLt.agg _ (nlc nll (nlc nll nl0))) rfl, Qaz rfl tz98 rfl, ast rfl ti98 (by rfl) rfl (nle rfl) rfl, trivial⟩
     refine Qar [rb [(.tmp 7, .ref 2 2 0 0)] [(2, .own 2 [[I y23, I y24]])] (.ref 2 2 0 0), rb [(.tmp 35, .ref 2 2 0 0)] [(2, .own 2 [[I y23, I y24]])] (I y23), rb [(.tmp 9, .ref 3 2 0 0)] [(3, .own 2 [[I x36.Lo, I x36.Hi]])] (.ref 3 2 0 0), rb [(.tmp 37, .ref 3 2 0 0)] [(3, .own 2 [[I x36.Lo, I x36.Hi]])] (I x36.Lo), rp [(.tmp 36, I y23), (.tmp 38, I x36.Lo)] (I (w64 (y23 + x36.Lo))), rb [(.tmp 7, .ref 2 2 0 0)] [(2, .own 2 [[I y23, I y24]])] (.ref 2 2 0 1), rb [(.tmp 40, .ref 2 2 0 1)] [(2, .own 2 [[I y23, I y24]])] (I y24), rb [(.tmp 9, .ref 3 2 0 0)] [(3, .own 2 [[I x36.Lo, I x36.Hi]])] (.ref 3 2 0 1), rb [(.tmp 42, .ref 3 2 0 1)] [(3, .own 2 [[I x36.Lo, I x36.Hi]])] (I x36.Hi), rp [(.tmp 41, I y24), (.tmp 43, I x36.Hi)] (I (w64 (y24 + x36.Hi))), rp [(.tmp 39, (I (w64 (y23 + x36.Lo)))), (.tmp 44, (I (w64 (y24 + x36.Hi))))] (.agg [(I (w64 (y23 + x36.Lo))), (I (w64 (y24 + x36.Hi)))]), ⟨[(.tmp 7, .ref 2 2 0 0), (.tmp 45, (.agg [(I (w64 (y23 + x36.Lo))), (I (w64 (y24 + x36.Hi)))]))], [(2, .own 2 [[I y23, I y24]])], .any, [(2, (.own 2 [[(I (w64 (y23 + x36.Lo))), (I (w64 (y24 + x36.Hi)))]]))], false⟩] ?_ ?_
     ·exact ⟨afa rfl Try.underlying98 rfl rfl ti3 (by decide) rfl, ald rfl ti3 (by decide) rfl (nle rfl) rfl, afa rfl Try.underlying98 rfl rfl ti3 (by decide) rfl, ald rfl ti3 (by decide) rfl (nle rfl) rfl, abn rfl rfl, afa rfl Try.underlying98 rfl rfl ti3 (by decide) rfl, ald rfl ti3 (by decide) rfl (nle rfl) rfl, afa rfl Try.underlying98 rfl rfl ti3 (by decide) rfl, ald rfl ti3 (by decide) rfl (nle rfl) rfl, abn rfl rfl, Qa9 (vs := [(I (w64 (y23 + x36.Lo))), (I (w64 (y24 + x36.Hi)))]) rfl ts98 tz98 rfl (by rfl) rfl, ast rfl ti98 (by rfl) rfl (nle rfl) rfl, trivial⟩
     refine bln ?_
     refine thn ?_
     refine Qar [mv 8 (I y22), rp [(.tmp 22, I y22), ci 1] (I (w64 (y22 + 1))), mv 23 (I (w64 (y22 + 1)))] ?_ ?_
     ·exact ⟨amv rfl, abn rfl rfl, aas rfl, trivial⟩
     refine thn ?_
     exact arm (mto (n := 71) [(0, (.dat 4 ((p0 : List GNode).map Qaa))), (2, I p2), (4, .ref 0 3 0 0), (6, .ref 1 2 0 0), (7, .ref 2 2 0 0), (8, (I (w64 (y22 + 1))))] [0, 1, 2] [(.own 3 [[(.dat 2 ((p1.Use : List GMeter).map Qab)), (.dat 2 ((p1.Flow : List GMeter).map Qab)), (.dat 1 ((p1.Has : List Bool).map Qae))]]), (.own 2 [[I 0, I 0]]), (.own 2 [[(I (w64 (y23 + x36.Lo))), (I (w64 (y24 + x36.Hi)))]])] hφ0 (pc (.rn (.plain _ (nld Qag _))) (pc rwl (pc (.rn (rqr rfl)) (pc (.rn (rqr rfl)) (pc (.rn (rqr rfl)) (pc rwl pn)))))) (qc (spb (lc (.rn (.plain _ (nld Qal _))) (lc (.rn (.plain _ (nld Qal _))) (lc (.rn (.plain _ (nld Qbd _))) ln)))) (qc (spb (lc rwl (lc rwl ln))) (qc (spb (lc rwl (lc rwl ln))) qn)))) (ih (w64 (y22 + 1), w64 (y23 + x36.Lo), w64 (y24 + x36.Hi)) h)
    ·replace h := Qaw hc34 h
     refine wfn hc34 (by kernel_rfl) ?_
     refine Qam ?_
     refine bln ?_
     refine thn ?_
     refine Qar [mv 8 (I y22), rp [(.tmp 22, I y22), ci 1] (I (w64 (y22 + 1))), mv 23 (I (w64 (y22 + 1)))] ?_ ?_
     ·exact ⟨amv rfl, abn rfl rfl, aas rfl, trivial⟩
     refine thn ?_
     exact arm (mto (n := 71) [(0, (.dat 4 ((p0 : List GNode).map Qaa))), (2, I p2), (4, .ref 0 3 0 0), (6, .ref 1 2 0 0), (7, .ref 2 2 0 0), (8, (I (w64 (y22 + 1))))] [0, 1, 2] [(.own 3 [[(.dat 2 ((p1.Use : List GMeter).map Qab)), (.dat 2 ((p1.Flow : List GMeter).map Qab)), (.dat 1 ((p1.Has : List Bool).map Qae))]]), (.own 2 [[I 0, I 0]]), (.own 2 [[I y23, I y24]])] hφ0 (pc (.rn (.plain _ (nld Qag _))) (pc rwl (pc (.rn (rqr rfl)) (pc (.rn (rqr rfl)) (pc (.rn (rqr rfl)) (pc rwl pn)))))) (qc (spb (lc (.rn (.plain _ (nld Qal _))) (lc (.rn (.plain _ (nld Qal _))) (lc (.rn (.plain _ (nld Qbd _))) ln)))) (qc (spb (lc rwl (lc rwl ln))) (qc (spb (lc rwl (lc rwl ln))) qn)))) (ih (w64 (y22 + 1), y23, y24) h)
   ·replace h := Qaw hc29 h
    refine wfn hc29 (by kernel_rfl) ?_
    refine Qbf ?_
    refine Qau ?_
    refine Qau ?_
    refine Qbe rfl ?_
    refine thn ?_
    exact ⟨(y23, y24), h, (mto (n := 71) [(0, (.dat 4 ((p0 : List GNode).map Qaa))), (2, I p2), (6, .ref 1 2 0 0), (7, .ref 2 2 0 0)] [1, 2] [(.own 2 [[I 0, I 0]]), (.own 2 [[I y23, I y24]])] hφ0 (pc (.rn (.plain _ (nld Qag _))) (pc rwl (pc (.rn (rqr rfl)) (pc (.rn (rqr rfl)) pn)))) (qc (spb (lc rwl (lc rwl ln))) (qc (spb (lc rwl (lc rwl ln))) qn)))⟩

def Qfh (N : Nat) (p0 : (List GNode)) (p1 : GMeters) (p2 : Int) : Option GRange :=
  (getI p1.Has p2).bind fun x1 =>
  bif (!x1) then
   some (⟨0, 0⟩ : GRange)
  else
   (getI p1.Flow p2).bind fun x6 =>
   (Qea N x6).bind fun x11 =>
   (Qdw N p0 p1 p2).bind fun x13 =>
   some (⟨w64 (x11.Lo - x13.Hi), w64 (x11.Hi - x13.Lo)⟩ : GRange)
set_option maxRecDepth 100000 in
set_option maxHeartbeats 4000000 in
theorem Qi8 (N : Nat) (p0 : (List GNode)) (p1 : GMeters) (p2 : Int) (r : GRange) (h : Qfh N p0 p1 p2 = some r) : Spec Try.prog 53 [(.dat 4 (p0.map Qaa)), (.agg (Qfi p1)), (I p2)] [] (.agg (Qai r)) [] := by
  refine Qaq Try.func53 rfl 0 (nle rfl) (fun X φ0 w0 hφ0 => ?_)
  unfold Qfh at h
  refine wrg [⟨[(.tmp 1, (.agg [(.dat 2 ((p1.Use : List GMeter).map Qab)), (.dat 2 ((p1.Flow : List GMeter).map Qab)), (.dat 1 ((p1.Has : List Bool).map Qae))]))], [(0, .unused)], .ref 0 3 0 0, [(0, (.own 3 [[(.dat 2 ((p1.Use : List GMeter).map Qab)), (.dat 2 ((p1.Flow : List GMeter).map Qab)), (.dat 1 ((p1.Has : List Bool).map Qae))]]))], false⟩, ⟨[], [(1, .unused)], .ref 1 2 0 0, [(1, .own 2 [[I 0, I 0]])], false⟩] ?_ ?_
  ·exact ⟨Qbu rfl (by rfl) rfl rfl, Qaz rfl tz98 rfl, trivial⟩
  refine wsq ?_
  obtain ⟨x1, hg2, h⟩ := bno h
  obtain ⟨hi3, hj4⟩ := gsm hg2
  refine wrg [rb [(.tmp 4, .ref 0 3 0 0)] [(0, (.own 3 [[(.dat 2 ((p1.Use : List GMeter).map Qab)), (.dat 2 ((p1.Flow : List GMeter).map Qab)), (.dat 1 ((p1.Has : List Bool).map Qae))]]))] (.ref 0 3 0 2), rb [(.tmp 9, .ref 0 3 0 2)] [(0, (.own 3 [[(.dat 2 ((p1.Use : List GMeter).map Qab)), (.dat 2 ((p1.Flow : List GMeter).map Qab)), (.dat 1 ((p1.Has : List Bool).map Qae))]]))] (.dat 1 ((p1.Has : List Bool).map Qae)), mv 2 (I p2), rp [(.tmp 10, (.dat 1 ((p1.Has : List Bool).map Qae))), (.tmp 11, I p2)] (.dptr (Qae (x1)) 0), rp [(.tmp 12, (.dptr (Qae (x1)) 0))] (B x1), rp [(.tmp 13, B x1)] (B ((!x1)))] ?_ ?_
  ·exact ⟨afa rfl Try.underlying89 rfl rfl ti26 (by decide) rfl, ald rfl ti26 (by decide) rfl (nle rfl) rfl, amv rfl, aid rfl Try.underlying26 ti4 rfl rfl hi3 (mgt Qae hj4) rfl, ald_ rfl ti4 (by decide) (nle rfl) rfl, Qap rfl, trivial⟩
  rcases bft ((!x1)) with hc5 | hc5
  ·replace h := Qav hc5 h
   refine wft hc5 (by kernel_rfl) ?_
   refine wrg [rp [] (.agg [I 0, I 0]), ⟨[(.tmp 6, .ref 1 2 0 0), (.tmp 15, (.agg [I 0, I 0]))], [(1, .own 2 [[I 0, I 0]])], .any, [(1, .own 2 [[I 0, I 0]])], false⟩] ?_ ?_
   ·exact ⟨Qa9 (vs := []) rfl ts98 tz98 rfl (by rfl) rfl, ast rfl ti98 (by rfl) rfl (nle rfl) rfl, trivial⟩
   refine Qak ?_
   refine Qao ?_
   obtain rfl := osi h
   exact ⟨⟨[(.agg [I 0, I 0])], ⟨Qds (n := 1) (m := 2) (j := 0) (i := 0) (xs := [[I 0, I 0]]) (by kernel_rfl) (by kernel_rfl) ti98 (by decide) rfl (nle rfl) rfl, trivial⟩, rfl⟩, (NLt.agg _ (nlc nll (nlc nll nl0))), Nat.le_refl _, fun n hn => absurd hn (Nat.not_lt_zero n)⟩
  ·replace h := Qaw hc5 h
   refine wfn hc5 (by kernel_rfl) ?_
   refine Qam ?_
   refine thn ?_
   obtain ⟨x6, hg7, h⟩ := bno h
   obtain ⟨hi8, hj9⟩ := gsm hg7
   obtain ⟨x11, hf10, h⟩ := bno h
   obtain ⟨x13, hf12, h⟩ := bno h
   refine Qct [rb [(.tmp 4, .ref 0 3 0 0)] [(0, (.own 3 [[(.dat 2 ((p1.Use : List GMeter).map Qab)), (.dat 2 ((p1.Flow : List GMeter).map Qab)), (.dat 1 ((p1.Has : List Bool).map Qae))]]))] (.ref 0 3 0 1), rb [(.tmp 16, .ref 0 3 0 1)] [(0, (.own 3 [[(.dat 2 ((p1.Use : List GMeter).map Qab)), (.dat 2 ((p1.Flow : List GMeter).map Qab)), (.dat 1 ((p1.Has : List Bool).map Qae))]]))] (.dat 2 ((p1.Flow : List GMeter).map Qab)), mv 2 (I p2), rp [(.tmp 17, (.dat 2 ((p1.Flow : List GMeter).map Qab))), (.tmp 18, I p2)] (.dptr (Qab (x6)) 0), rp [(.tmp 19, (.dptr (Qab (x6)) 0))] (.agg [I x6.Reading, I x6.Off]), rp [fu 49, (.tmp 20, (.agg [I x6.Reading, I x6.Off]))] (.agg [I x11.Lo, I x11.Hi]), mv 0 (.dat 4 ((p0 : List GNode).map Qaa)), rb [(.tmp 4, .ref 0 3 0 0)] [(0, (.own 3 [[(.dat 2 ((p1.Use : List GMeter).map Qab)), (.dat 2 ((p1.Flow : List GMeter).map Qab)), (.dat 1 ((p1.Has : List Bool).map Qae))]]))] (.agg [(.dat 2 ((p1.Use : List GMeter).map Qab)), (.dat 2 ((p1.Flow : List GMeter).map Qab)), (.dat 1 ((p1.Has : List Bool).map Qae))]), mv 2 (I p2), rp [fu 87, (.tmp 22, (.dat 4 ((p0 : List GNode).map Qaa))), (.tmp 23, (.agg [(.dat 2 ((p1.Use : List GMeter).map Qab)), (.dat 2 ((p1.Flow : List GMeter).map Qab)), (.dat 1 ((p1.Has : List Bool).map Qae))])), (.tmp 24, I p2)] (.agg [I x13.Lo, I x13.Hi]), ⟨[], [(2, .unused)], .ref 2 2 0 0, [(2, .own 2 [[I 0, I 0]])], false⟩, ⟨[], [(3, .unused)], .ref 3 2 0 0, [(3, .own 2 [[I 0, I 0]])], false⟩, ⟨[(.tmp 7, .ref 2 2 0 0), (.tmp 21, (.agg [I x11.Lo, I x11.Hi]))], [(2, .own 2 [[I 0, I 0]])], .any, [(2, .own 2 [[I x11.Lo, I x11.Hi]])], false⟩, ⟨[(.tmp 8, .ref 3 2 0 0), (.tmp 25, (.agg [I x13.Lo, I x13.Hi]))], [(3, .own 2 [[I 0, I 0]])], .any, [(3, .own 2 [[I x13.Lo, I x13.Hi]])], false⟩] ?_ ?_
   ·exact ⟨afa rfl Try.underlying89 rfl rfl ti87 (by decide) rfl, ald rfl ti87 (by decide) rfl (nle rfl) rfl, amv rfl, aid rfl Try.underlying87 ti91 rfl rfl hi8 (mgt Qab hj9) rfl, ald_ rfl ti91 (by decide) (nle rfl) rfl, apc (first := []) (cap := []) (vs := [(.agg [I x6.Reading, I x6.Off])]) rfl enter49 (Qfb N x6 _ hf10) rfl rfl (nlc (NLt.agg _ (nlc nll (nlc nll nl0))) nl0) (NLt.agg _ (nlc nll (nlc nll nl0))) rfl, amv rfl, ald rfl ti89 (by decide) rfl (nle rfl) rfl, amv rfl, apc (first := []) (cap := []) (vs := [(.dat 4 ((p0 : List GNode).map Qaa)), (.agg [(.dat 2 ((p1.Use : List GMeter).map Qab)), (.dat 2 ((p1.Flow : List GMeter).map Qab)), (.dat 1 ((p1.Has : List Bool).map Qae))]), I p2]) rfl enter87 (Qi7 N p0 p1 p2 _ hf12) rfl rfl (nlc (nld Qag _) (nlc (NLt.agg _ (nlc (nld Qal _) (nlc (nld Qal _) (nlc (nld Qbd _) nl0)))) (nlc nll nl0))) (NLt.agg _ (nlc nll (nlc nll nl0))) rfl, Qaz rfl tz98 rfl, Qaz rfl tz98 rfl, ast rfl ti98 (by rfl) rfl (nle rfl) rfl, ast rfl ti98 (by rfl) rfl (nle rfl) rfl, trivial⟩
   refine wrg [rb [(.tmp 7, .ref 2 2 0 0)] [(2, .own 2 [[I x11.Lo, I x11.Hi]])] (.ref 2 2 0 0), rb [(.tmp 26, .ref 2 2 0 0)] [(2, .own 2 [[I x11.Lo, I x11.Hi]])] (I x11.Lo), rb [(.tmp 8, .ref 3 2 0 0)] [(3, .own 2 [[I x13.Lo, I x13.Hi]])] (.ref 3 2 0 1), rb [(.tmp 28, .ref 3 2 0 1)] [(3, .own 2 [[I x13.Lo, I x13.Hi]])] (I x13.Hi), rp [(.tmp 27, I x11.Lo), (.tmp 29, I x13.Hi)] (I (w64 (x11.Lo - x13.Hi))), rb [(.tmp 7, .ref 2 2 0 0)] [(2, .own 2 [[I x11.Lo, I x11.Hi]])] (.ref 2 2 0 1), rb [(.tmp 31, .ref 2 2 0 1)] [(2, .own 2 [[I x11.Lo, I x11.Hi]])] (I x11.Hi), rb [(.tmp 8, .ref 3 2 0 0)] [(3, .own 2 [[I x13.Lo, I x13.Hi]])] (.ref 3 2 0 0), rb [(.tmp 33, .ref 3 2 0 0)] [(3, .own 2 [[I x13.Lo, I x13.Hi]])] (I x13.Lo), rp [(.tmp 32, I x11.Hi), (.tmp 34, I x13.Lo)] (I (w64 (x11.Hi - x13.Lo))), rp [(.tmp 30, (I (w64 (x11.Lo - x13.Hi)))), (.tmp 35, (I (w64 (x11.Hi - x13.Lo))))] (.agg [(I (w64 (x11.Lo - x13.Hi))), (I (w64 (x11.Hi - x13.Lo)))]), ⟨[(.tmp 6, .ref 1 2 0 0), (.tmp 36, (.agg [(I (w64 (x11.Lo - x13.Hi))), (I (w64 (x11.Hi - x13.Lo)))]))], [(1, .own 2 [[I 0, I 0]])], .any, [(1, (.own 2 [[(I (w64 (x11.Lo - x13.Hi))), (I (w64 (x11.Hi - x13.Lo)))]]))], false⟩] ?_ ?_
   ·exact ⟨afa rfl Try.underlying98 rfl rfl ti3 (by decide) rfl, ald rfl ti3 (by decide) rfl (nle rfl) rfl, afa rfl Try.underlying98 rfl rfl ti3 (by decide) rfl, ald rfl ti3 (by decide) rfl (nle rfl) rfl, abn rfl rfl, afa rfl Try.underlying98 rfl rfl ti3 (by decide) rfl, ald rfl ti3 (by decide) rfl (nle rfl) rfl, afa rfl Try.underlying98 rfl rfl ti3 (by decide) rfl, ald rfl ti3 (by decide) rfl (nle rfl) rfl, abn rfl rfl, Qa9 (vs := [(I (w64 (x11.Lo - x13.Hi))), (I (w64 (x11.Hi - x13.Lo)))]) rfl ts98 tz98 rfl (by rfl) rfl, ast rfl ti98 (by rfl) rfl (nle rfl) rfl, trivial⟩
   refine Qak ?_
   obtain rfl := osi h
   exact ⟨⟨[(.agg [(I (w64 (x11.Lo - x13.Hi))), (I (w64 (x11.Hi - x13.Lo)))])], ⟨Qds (n := 1) (m := 2) (j := 0) (i := 0) (xs := [[(I (w64 (x11.Lo - x13.Hi))), (I (w64 (x11.Hi - x13.Lo)))]]) (by kernel_rfl) (by kernel_rfl) ti98 (by decide) rfl (nle rfl) rfl, trivial⟩, rfl⟩, (NLt.agg _ (nlc nll (nlc nll nl0))), Nat.le_refl _, fun n hn => absurd hn (Nat.not_lt_zero n)⟩

end Go.Proofs.Ytgdepcgbjjgnfaa
