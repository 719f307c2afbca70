/-
  Plain: heat, mass, silica and gas of brine and cold water are those of what leaves a line and of all that is named. No conditions.
-/
import Derived.Test.YtlhakkkjgdbdpaaGreatX10
import Derived.Test.YtlhakkkjgdbdpaaGreatPSet
namespace Go.Proofs.YtlhakkkjgdbdpaaGreat
open Go.RowKit
theorem Zeq {s : GStream} {t : Int} (hs : StrV s) (ht : btw t 0 4000 = true) : 0 ≤ airI s t ∧ airI s t ≤ s.Heat ∧ w64 (s.Heat - airI s t) = s.Heat - airI s t := by
 obtain ⟨t0, t1⟩ := Qgv.1 ht
 have m0 := hs.m0; have m1 := hs.m1; have k0 := hs.h0; have k1 := hs.h1
 have hb := bdp t0 t1 m0 m1 (by omega)
 have e1 : w64 (t * s.Mass) = t * s.Mass := Qca (by omega) (by omega)
 have e2 : w64 (s.Heat - t * s.Mass) = s.Heat - t * s.Mass := Qca (by omega) (by omega)
 have ha : 0 ≤ airI s t ∧ airI s t ≤ s.Heat := by
  unfold airI
  rw [e1, e2]
  split <;> omega
 exact ⟨ha.1, ha.2, Qca (by omega) (by omega)⟩
theorem Zeg {s : GStream} {c : GCycle} (hs : StrV s) (hc : cycB c = true) : 0 ≤ hotI c s ∧ hotI c s ≤ s.Heat ∧ w64 (s.Heat - hotI c s) = s.Heat - hotI c s ∧ 0 ≤ wrkI c s ∧ wrkI c s ≤ hotI c s ∧ w64 (hotI c s - wrkI c s) = hotI c s - wrkI c s := by
 unfold cycB at hc
 simp only [Bool.and_eq_true, Qgv] at hc
 obtain ⟨⟨⟨a0, a1⟩, b0, b1⟩, c0, c1⟩ := hc
 have m0 := hs.m0; have m1 := hs.m1; have k0 := hs.h0; have k1 := hs.h1
 have hb := bdp a0 a1 m0 m1 (by omega)
 have e1 : w64 (c.Out * s.Mass) = c.Out * s.Mass := Qca (by omega) (by omega)
 have e2 : w64 (s.Heat - c.Out * s.Mass) = s.Heat - c.Out * s.Mass := Qca (by omega) (by omega)
 have ha : 0 ≤ hotI c s ∧ hotI c s ≤ s.Heat ∧ hotI c s ≤ 4000000000 := by
  unfold hotI
  rw [e1, e2]
  split <;> split <;> omega
 have hy := bdp ha.1 ha.2.2 b0 b1 (by omega)
 have e3 : w64 (hotI c s * c.Yield) = hotI c s * c.Yield := Qca (by omega) (by omega)
 have hle : hotI c s * c.Yield ≤ hotI c s * 1000 := Int.mul_le_mul_of_nonneg_left b1 ha.1
 have hw : wrkI c s = hotI c s * c.Yield / 1000 := by
  unfold wrkI
  rw [e3, Int.tdiv_eq_ediv_of_nonneg hy.1]
  exact Qca (by omega) (by omega)
 refine ⟨ha.1, ha.2.1, Qca (by omega) (by omega), by omega, by omega, Qca (by omega) (by omega)⟩
theorem Q3z (l : GLine) (s c : GStream) (gl : Qze l) (_ : Qpe s) (_ : Qpe c) : Qg1 (l.Table.length + l.Unit.Parts.length + 2000) l s c = some true := by
 generalize hM : l.Table.length + l.Unit.Parts.length + 2000 = N
 have g1 : l.Table.length ≤ 9223372036854775807 := gl.1.1
 have g2 : l.Unit.Parts.length ≤ 9223372036854775807 := gl.2.2.1.2.1
 unfold Qg1
 simp only [Q7m, Option.bind_some, Qc5]
 rw [show (⟨l.Table, l.Level, ⟨l.Unit.Inlet, l.Unit.Parts⟩, l.Most, l.Target, ⟨l.Cycle.Out, l.Cycle.Yield, l.Cycle.Most⟩⟩ : GLine) = l from rfl, Q6l l g1 (by omega) (by omega), Option.bind_some]
 cases h : Qtm l with
 | false => rfl
 | true =>
  simp only [Option.bind_some, Q3a, Bool.not_true, cond_false]
  cases hs : strB s with
  | false => rfl
  | true =>
   cases hc : strB c with
   | false => rfl
   | true =>
    have hv := Qy7 h
    obtain ⟨f1, f2⟩ := hv.few
    have vs := Qhu.1 hs
    have vc := Qhu.1 hc
    simp only [Bool.not_true, cond_false]
    rw [Qxt l (by omega) (by omega) (by omega), Option.bind_some]
    simp only [Qib, Option.bind_some]
    rw [show (⟨l.Table, l.Level, ⟨l.Unit.Inlet, l.Unit.Parts⟩, l.Most, l.Target, ⟨l.Cycle.Out, l.Cycle.Yield, l.Cycle.Most⟩⟩ : GLine) = l from rfl, Q0h (by omega) (by omega), h, hs, hc]
    simp only [Option.bind_some, Bool.and_self, cond_true]
    obtain ⟨h1, h2, h3⟩ := Qzf hv vs
    by_cases c1 : (expI l.Unit (flG (Qdb l) s).Steam).2.2 = 0
    ·obtain ⟨x1, x2, x3, k1⟩ := Q36 hv.unit h3.st c1
     by_cases c2 : (conI (expI l.Unit (flG (Qdb l) s).Steam).1 c l.Most).2.2 = 0
     ·obtain ⟨y1, y2, y3, k2⟩ := Q4o k1 vc c2
      obtain ⟨a1, a2, a3⟩ := Zeq (t := l.Target) k2 hv.target
      obtain ⟨b1, b2, b3, b4, b5, b6⟩ := Zeg h3.wa hv.cyc
      have e : setI l s c = (⟨(expI l.Unit (flG (Qdb l) s).Steam).2.1, (conI (expI l.Unit (flG (Qdb l) s).Steam).1 c l.Most).2.1, airI (conI (expI l.Unit (flG (Qdb l) s).Steam).1 c l.Most).1 l.Target, wrkI l.Cycle (flG (Qdb l) s).Water, w64 (hotI l.Cycle (flG (Qdb l) s).Water - wrkI l.Cycle (flG (Qdb l) s).Water), (flG (Qdb l) s).Scale,
        towI (conI (expI l.Unit (flG (Qdb l) s).Steam).1 c l.Most).1 l.Target, runI l.Cycle (flG (Qdb l) s).Water⟩, 0) := by
       unfold setI
       rw [if_neg (by simpa using c1), if_neg (by simpa using c2)]
      rw [e]
      have mc := h3.km; have hc2 := h3.kh; have sc := h3.ks; have gc := h3.kg; have hz := h3.z; have hsc := h3.sc
      have hotS : StrV (towI (conI (expI l.Unit (flG (Qdb l) s).Steam).1 c l.Most).1 l.Target) := by
       unfold towI
       rw [a3]
       exact ⟨k2.m0, k2.m1, by dsimp only; omega, by dsimp only; have := k2.h1; omega, k2.s0, k2.s1, k2.g0, k2.g1⟩
      have briS : StrV (runI l.Cycle (flG (Qdb l) s).Water) := by
       unfold runI
       rw [b3]
       exact ⟨h3.wa.m0, h3.wa.m1, by dsimp only; omega, by dsimp only; have := h3.wa.h1; omega, h3.wa.s0, h3.wa.s1, h3.wa.g0, h3.wa.g1⟩
      simp only [Qzn, Qhu.2 hotS, Qhu.2 briS, cond_true, Option.bind_some]
      unfold towI runI
      rw [a3, b3, b6]
      generalize airI (conI (expI l.Unit (flG (Qdb l) s).Steam).1 c l.Most).1 l.Target = air at a1 a2 ⊢
      generalize hotI l.Cycle (flG (Qdb l) s).Water = hot at b1 b2 b4 b5 ⊢
      generalize wrkI l.Cycle (flG (Qdb l) s).Water = wrk at b4 b5 ⊢
      rw [y1] at a2 ⊢
      rw [y2]
      rw [x1] at a2 y3 ⊢
      generalize (expI l.Unit (flG (Qdb l) s).Steam).2.1 = tur at x2 x3 a2 y3 ⊢
      dsimp only at a2 y3 ⊢
      have s1 := h3.st; have s2 := h3.wa
      have p1 := s1.m0; have p2 := s1.m1; have p3 := s1.h0; have p4 := s1.h1; have p5 := s1.s0; have p6 := s1.s1; have p7 := s1.g0; have p8 := s1.g1
      have q1 := s2.m0; have q2 := s2.m1; have q3 := s2.h0; have q4 := s2.h1; have q5 := s2.s0; have q6 := s2.s1; have q7 := s2.g0; have q8 := s2.g1
      have r1 := vs.m0; have r2 := vs.m1; have r3 := vs.h0; have r4 := vs.h1; have r5 := vs.s0; have r6 := vs.s1; have r7 := vs.g0; have r8 := vs.g1
      have t1 := vc.m0; have t2 := vc.m1; have t3 := vc.h0; have t4 := vc.h1; have t5 := vc.s0; have t6 := vc.s1; have t7 := vc.g0; have t8 := vc.g1
      generalize (flG (Qdb l) s).Steam.Mass = z1 at *
      generalize (flG (Qdb l) s).Steam.Heat = z2 at *
      generalize (flG (Qdb l) s).Steam.Silica = z3 at *
      generalize (flG (Qdb l) s).Steam.Gas = z4 at *
      generalize (flG (Qdb l) s).Water.Mass = z5 at *
      generalize (flG (Qdb l) s).Water.Heat = z6 at *
      generalize (flG (Qdb l) s).Water.Silica = z7 at *
      generalize (flG (Qdb l) s).Water.Gas = z8 at *
      generalize (flG (Qdb l) s).Scale = z9 at *
      have w1 : w64 (w64 (w64 (w64 (w64 (tur + air) + wrk) + (hot - wrk)) + (z2 - tur + c.Heat - air)) + (z6 - hot)) = s.Heat + c.Heat := by
       rw [Qca (x := tur + air) (by omega) (by omega), Qca (x := tur + air + wrk) (by omega) (by omega), Qca (x := tur + air + wrk + (hot - wrk)) (by omega) (by omega), Qca (x := tur + air + wrk + (hot - wrk) + (z2 - tur + c.Heat - air)) (by omega) (by omega), Qca (by omega) (by omega)]
       omega
      have w2 : w64 (s.Heat + c.Heat) = s.Heat + c.Heat := Qca (by omega) (by omega)
      have w3 : w64 (z1 + c.Mass + z5) = s.Mass + c.Mass := by rw [Qca (by omega) (by omega)]; omega
      have w4 : w64 (s.Mass + c.Mass) = s.Mass + c.Mass := Qca (by omega) (by omega)
      have w5 : w64 (w64 (z3 + c.Silica + z7) + z9) = s.Silica + c.Silica := by
       rw [Qca (x := z3 + c.Silica + z7) (by omega) (by omega), Qca (by omega) (by omega)]
       omega
      have w6 : w64 (s.Silica + c.Silica) = s.Silica + c.Silica := Qca (by omega) (by omega)
      have w7 : w64 (z4 + c.Gas + z8) = s.Gas + c.Gas := by rw [Qca (by omega) (by omega)]; omega
      have w8 : w64 (s.Gas + c.Gas) = s.Gas + c.Gas := Qca (by omega) (by omega)
      have d1 : decide (tur ≥ 0) = true := decide_eq_true x2
      have d2 : decide (air ≥ 0) = true := decide_eq_true a1
      have d3 : decide (wrk ≥ 0) = true := decide_eq_true b4
      have d4 : decide (hot - wrk ≥ 0) = true := decide_eq_true (by omega)
      have d5 : decide (z4 + c.Gas ≥ 0) = true := decide_eq_true (by omega)
      have d6 : decide (z4 + c.Gas ≤ l.Most) = true := decide_eq_true y3
      have d7 : decide (z9 ≥ 0) = true := decide_eq_true hsc
      simp only [d1, d2, d3, d4, d5, d6, d7, w1, w2, w3, w4, w5, w6, w7, w8, cond_true, beq_self_eq_true, bne_self_eq_false, cond_false]
     ·have e : setI l s c = (Q1b, (conI (expI l.Unit (flG (Qdb l) s).Steam).1 c l.Most).2.2) := by
       unfold setI
       rw [if_neg (by simpa using c1), if_pos c2]
      rw [e]
      have hcode : (conI (expI l.Unit (flG (Qdb l) s).Steam).1 c l.Most).2.2 = 3 ∨ (conI (expI l.Unit (flG (Qdb l) s).Steam).1 c l.Most).2.2 = 11 := by
       revert c2
       unfold conI
       split
       ·simp
       ·split
        ·simp
        ·split <;> simp
      rcases hcode with hcode | hcode <;> rw [hcode] <;> rfl
    ·have e : setI l s c = (Q1b, (expI l.Unit (flG (Qdb l) s).Steam).2.2) := by
      unfold setI
      rw [if_pos c1]
     rw [e]
     have hcode : (expI l.Unit (flG (Qdb l) s).Steam).2.2 = 2 ∨ (expI l.Unit (flG (Qdb l) s).Steam).2.2 = 9 := by
      revert c1
      unfold expI
      split
      ·simp
      ·split <;> simp
     rcases hcode with hcode | hcode <;> rw [hcode] <;> rfl
end Go.Proofs.YtlhakkkjgdbdpaaGreat
