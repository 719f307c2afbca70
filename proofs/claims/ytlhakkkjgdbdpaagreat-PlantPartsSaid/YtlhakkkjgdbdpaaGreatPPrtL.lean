/-
  Plain: an account is the flash, the unit, the condenser, the tower and the cycle, one after the other. No conditions.
-/
import Derived.Test.YtlhakkkjgdbdpaaGreatX11
import Derived.Test.YtlhakkkjgdbdpaaGreatPSet
namespace Go.Proofs.YtlhakkkjgdbdpaaGreat
open Go.RowKit
theorem Q3n (l : GLine) (s c : GStream) (gl : Qze l) (_ : Qpb s) (_ : Qpb c) : Qg4 (l.Table.length + l.Unit.Parts.length + 2000) l s c = some true := by
 generalize hM : l.Table.length + l.Unit.Parts.length + 2000 = N
 have g1 : l.Table.length ≤ 9223372036854775807 := gl.1.1
 have g2 : l.Unit.Parts.length ≤ 9223372036854775807 := gl.2.2.1.2.1
 unfold Qg4
 simp only [Q7x, Option.bind_some, Qc4]
 rw [show (⟨l.Table, l.Level, ⟨l.Unit.Inlet, l.Unit.Parts⟩, l.Most, l.Target, ⟨l.Cycle.Out, l.Cycle.Yield, l.Cycle.Most⟩⟩ : GLine) = l from rfl, Q6w l g1 (by omega) (by omega), Option.bind_some]
 cases h : Qti l with
 | false => rfl
 | true =>
  simp only [Option.bind_some, Q3h, Bool.not_true, cond_false]
  cases hs : strB s with
  | false => rfl
  | true =>
   cases hc : strB c with
   | false => rfl
   | true =>
    have hv := Qy7 h
    obtain ⟨f1, f2⟩ := hv.few
    have vs := Qgy.1 hs
    have vc := Qgy.1 hc
    simp only [Bool.not_true, cond_false]
    rw [Qxu l (by omega) (by omega) (by omega), Option.bind_some]
    simp only [Qga, Option.bind_some]
    rw [show (⟨l.Table, l.Level, ⟨l.Unit.Inlet, l.Unit.Parts⟩, l.Most, l.Target, ⟨l.Cycle.Out, l.Cycle.Yield, l.Cycle.Most⟩⟩ : GLine) = l from rfl, Q0i (by omega) (by omega), h, hs, hc]
    simp only [Option.bind_some, Bool.and_self, cond_true]
    obtain ⟨h1, h2, h3⟩ := Qzf hv vs
    have ef : Qf5 N l.Table l.Level s = some (flG (Qdj l) s, 0) := by
     rw [Qzg (by omega) (by omega)]
     unfold Qzh
     rw [hv.tab, hv.lev, hs]
     rfl
    have e1 := Q4c (N := N) (by omega) l.Unit (flG (Qdj l) s).Steam
    rw [hv.unit, Qgy.2 h3.st] at e1
    simp only [Bool.and_self, cond_true] at e1
    rw [ef, Option.bind_some]
    rw [show (⟨l.Unit.Inlet, l.Unit.Parts⟩ : GUnit) = l.Unit from rfl, show (⟨(flG (Qdj l) s).Steam.Mass, (flG (Qdj l) s).Steam.Heat, (flG (Qdj l) s).Steam.Silica, (flG (Qdj l) s).Steam.Gas⟩ : GStream) = (flG (Qdj l) s).Steam from rfl, e1, Option.bind_some]
    unfold setI
    simp only [bne_self_eq_false, cond_false]
    by_cases c1 : (expI l.Unit (flG (Qdj l) s).Steam).2.2 = 0
    ·obtain ⟨_, _, _, k1⟩ := Q4d hv.unit h3.st c1
     rw [if_neg (by simpa using c1), c1]
     simp only [bne_self_eq_false, cond_false]
     have e2 := Q4x (N := N) (by omega) (expI l.Unit (flG (Qdj l) s).Steam).1 c l.Most
     rw [Qgy.2 k1, hc, hv.most] at e2
     simp only [Bool.and_self, cond_true] at e2
     rw [show (⟨(expI l.Unit (flG (Qdj l) s).Steam).1.Mass, (expI l.Unit (flG (Qdj l) s).Steam).1.Heat, (expI l.Unit (flG (Qdj l) s).Steam).1.Silica, (expI l.Unit (flG (Qdj l) s).Steam).1.Gas⟩ : GStream) = (expI l.Unit (flG (Qdj l) s).Steam).1 from rfl, e2, Option.bind_some]
     by_cases c2 : (conI (expI l.Unit (flG (Qdj l) s).Steam).1 c l.Most).2.2 = 0
     ·obtain ⟨_, _, _, k2⟩ := Q4y k1 vc c2
      rw [if_neg (by simpa using c2), c2]
      simp only [bne_self_eq_false, cond_false]
      rw [show (⟨(conI (expI l.Unit (flG (Qdj l) s).Steam).1 c l.Most).1.Mass, (conI (expI l.Unit (flG (Qdj l) s).Steam).1 c l.Most).1.Heat, (conI (expI l.Unit (flG (Qdj l) s).Steam).1 c l.Most).1.Silica, (conI (expI l.Unit (flG (Qdj l) s).Steam).1 c l.Most).1.Gas⟩ : GStream) = (conI (expI l.Unit (flG (Qdj l) s).Steam).1 c l.Most).1 from rfl, Q29 (by omega) (Qgy.2 k2) hv.target, Option.bind_some]
      rw [show (⟨l.Cycle.Out, l.Cycle.Yield, l.Cycle.Most⟩ : GCycle) = l.Cycle from rfl, show (⟨(flG (Qdj l) s).Water.Mass, (flG (Qdj l) s).Water.Heat, (flG (Qdj l) s).Water.Silica, (flG (Qdj l) s).Water.Gas⟩ : GStream) = (flG (Qdj l) s).Water from rfl, Q3e (by omega) hv.cyc (Qgy.2 h3.wa), Option.bind_some]
      simp only [beq_self_eq_true, cond_true]
     ·rw [if_pos c2]
      have : ((conI (expI l.Unit (flG (Qdj l) s).Steam).1 c l.Most).2.2 != 0) = true := by simpa using c2
      rw [this]
      simp only [beq_self_eq_true, cond_true]
    ·rw [if_pos c1]
     have : ((expI l.Unit (flG (Qdj l) s).Steam).2.2 != 0) = true := by simpa using c1
     rw [this]
     simp only [beq_self_eq_true, cond_true]
end Go.Proofs.YtlhakkkjgdbdpaaGreat
