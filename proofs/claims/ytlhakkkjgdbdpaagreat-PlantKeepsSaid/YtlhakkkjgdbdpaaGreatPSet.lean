/-
  Plain: what a line of machines makes of brine and cold water: the program's account is the document's. No conditions.
-/
import Derived.Test.YtlhakkkjgdbdpaaGreatPFlz
namespace Go.Proofs.YtlhakkkjgdbdpaaGreat
open Go.RowKit
def Qtm (l : GLine) : Bool := tabB l.Table && btw l.Level 0 (l.Table.length - 1) && Qng l.Unit && btw l.Most 0 1000000000 && btw l.Target 0 4000 && cycB l.Cycle
def Q1b : GAccount := ⟨0, 0, 0, 0, 0, 0, ⟨0, 0, 0, 0⟩, ⟨0, 0, 0, 0⟩⟩
def airI (s : GStream) (t : Int) : Int := if w64 (s.Heat - w64 (t * s.Mass)) > 0 then w64 (s.Heat - w64 (t * s.Mass)) else 0
def towI (s : GStream) (t : Int) : GStream := ⟨s.Mass, w64 (s.Heat - airI s t), s.Silica, s.Gas⟩
def hotI (c : GCycle) (s : GStream) : Int := if (if w64 (s.Heat - w64 (c.Out * s.Mass)) > 0 then w64 (s.Heat - w64 (c.Out * s.Mass)) else 0) < c.Most then (if w64 (s.Heat - w64 (c.Out * s.Mass)) > 0 then w64 (s.Heat - w64 (c.Out * s.Mass)) else 0) else c.Most
def wrkI (c : GCycle) (s : GStream) : Int := w64 ((w64 (hotI c s * c.Yield)).tdiv 1000)
def runI (c : GCycle) (s : GStream) : GStream := ⟨s.Mass, w64 (s.Heat - hotI c s), s.Silica, s.Gas⟩
theorem Zaq {N : Nat} (hN : 10 ≤ N) {s : GStream} {t : Int} (h : strB s = true) (ht : btw t 0 4000 = true) : Qho N s t = some (towI s t, airI s t, 0) := by
 rw [Q57 N hN, h, ht]
 rfl
theorem Zav {N : Nat} (hN : 10 ≤ N) {c : GCycle} {s : GStream} (h : cycB c = true) (hs : strB s = true) : Qju N c s = some (runI c s, wrkI c s, w64 (hotI c s - wrkI c s), 0) := by
 unfold Qju
 simp only [Q4n, Qo7 hN, Option.bind_some, h, hs, Bool.not_true, cond_false, Qc5]
 rfl
theorem Q6l {N : Nat} (l : GLine) (h1 : l.Table.length ≤ 9223372036854775807) (h2 : (l.Unit.Parts.length : Int) ≤ 9223372036854775807) (hN : l.Table.length + l.Unit.Parts.length + 1001 ≤ N) : Qgd N l = some (Qtm l) := by
 unfold Qgd Qtm
 have hw : w64 ((l.Table.length : Int) - 1) = (l.Table.length : Int) - 1 := Qca (by omega) (by omega)
 have hr := Q6e (N := N) (u := l.Unit) h2 (by omega)
 simp only [Q29 (N := N) h1 (by omega), Q0o, hw, Zcs, Option.bind_some]
 rw [show (⟨l.Unit.Inlet, l.Unit.Parts⟩ : GUnit) = l.Unit from rfl, hr, show (⟨l.Cycle.Out, l.Cycle.Yield, l.Cycle.Most⟩ : GCycle) = l.Cycle from rfl]
 simp only [Option.bind_some]
 cases tabB l.Table <;> cases btw l.Level 0 (l.Table.length - 1) <;> cases Qng l.Unit <;> cases btw l.Most 0 1000000000 <;> cases btw l.Target 0 4000 <;> rfl
theorem Q6m {N : Nat} (l : GLine) (h1 : l.Table.length ≤ 1000) (hN : 1001 ≤ N) : Qf1 N l = some (Qtm l) := by
 unfold Qf1 Qtm Qgx
 have hw : w64 ((l.Table.length : Int) - 1) = (l.Table.length : Int) - 1 := Qca (by omega) (by omega)
 simp only [Qux h1 hN, Qkn, hw, Option.bind_some]
 rw [show (⟨l.Unit.Inlet, l.Unit.Parts⟩ : GUnit) = l.Unit from rfl, Q23 (by omega), show (⟨l.Cycle.Out, l.Cycle.Yield, l.Cycle.Most⟩ : GCycle) = l.Cycle from rfl, Q4n]
 simp only [Option.bind_some]
 cases tabB l.Table <;> cases btw l.Level 0 (l.Table.length - 1) <;> cases Qng l.Unit <;> cases btw l.Most 0 1000000000 <;> cases btw l.Target 0 4000 <;> rfl
theorem Qxt {N : Nat} (l : GLine) (h1 : l.Table.length ≤ 1000) (h2 : l.Unit.Parts.length ≤ 100) (hN : 1001 ≤ N) : Qj5 N l = some l := by
 unfold Qj5 Qkf
 rw [Q59 h1 hN, show (⟨l.Unit.Inlet, l.Unit.Parts⟩ : GUnit) = l.Unit from rfl, Q7c h2 (by omega)]
 rfl
def Qdb (l : GLine) : GRow := (getI l.Table l.Level).getD ⟨0, 0, 0, 0, 0⟩
def setI (l : GLine) (s c : GStream) : GAccount × Int :=
 if (expI l.Unit (flG (Qdb l) s).Steam).2.2 ≠ 0 then (Q1b, (expI l.Unit (flG (Qdb l) s).Steam).2.2)
 else if (conI (expI l.Unit (flG (Qdb l) s).Steam).1 c l.Most).2.2 ≠ 0 then (Q1b, (conI (expI l.Unit (flG (Qdb l) s).Steam).1 c l.Most).2.2)
 else (⟨(expI l.Unit (flG (Qdb l) s).Steam).2.1, (conI (expI l.Unit (flG (Qdb l) s).Steam).1 c l.Most).2.1, airI (conI (expI l.Unit (flG (Qdb l) s).Steam).1 c l.Most).1 l.Target, wrkI l.Cycle (flG (Qdb l) s).Water, w64 (hotI l.Cycle (flG (Qdb l) s).Water - wrkI l.Cycle (flG (Qdb l) s).Water), (flG (Qdb l) s).Scale,
  towI (conI (expI l.Unit (flG (Qdb l) s).Steam).1 c l.Most).1 l.Target, runI l.Cycle (flG (Qdb l) s).Water⟩, 0)
structure LineV (l : GLine) : Prop where
 tab : tabB l.Table = true
 lev : btw l.Level 0 (l.Table.length - 1) = true
 unit : Qng l.Unit = true
 most : btw l.Most 0 1000000000 = true
 target : btw l.Target 0 4000 = true
 cyc : cycB l.Cycle = true
theorem Qy7 {l : GLine} (h : Qtm l = true) : LineV l := by
 unfold Qtm at h
 simp only [Bool.and_eq_true] at h
 exact ⟨h.1.1.1.1.1, h.1.1.1.1.2, h.1.1.1.2, h.1.1.2, h.1.2, h.2⟩
theorem LineV.few {l : GLine} (h : LineV l) : l.Table.length ≤ 20 ∧ l.Unit.Parts.length ≤ 8 := by
 have h1 := h.tab
 unfold tabB at h1
 simp only [Bool.and_eq_true, Qgv] at h1
 have h2 := (Qob h.unit).2.1
 omega
theorem Zd9 {u : GUnit} (h : Qng u = true) {m : Int} (hm : 0 ≤ m) : 0 ≤ powI u.Parts m ∧ powI u.Parts m ≤ 800000000 := by
 obtain ⟨_, h2, h3⟩ := Qob h
 have := Qxj u.Parts 1000 m h3 (by omega) hm
 omega
theorem Q36 {u : GUnit} {s : GStream} (h : Qng u = true) (hs : StrV s) (h0 : (expI u s).2.2 = 0) :
  (expI u s).1 = ⟨s.Mass, s.Heat - (expI u s).2.1, s.Silica, s.Gas⟩ ∧ 0 ≤ (expI u s).2.1 ∧ (expI u s).2.1 ≤ s.Heat ∧ StrV (expI u s).1 := by
 obtain ⟨a, b⟩ := Zd9 h hs.m0
 have m0 := hs.m0; have m1 := hs.m1; have k0 := hs.h0; have k1 := hs.h1; have s0 := hs.s0; have s1 := hs.s1; have g0 := hs.g0; have g1 := hs.g1
 unfold expI at h0 ⊢
 split at h0
 ·simp at h0
 ·rename_i c1
  split at h0
  ·simp at h0
  ·rename_i c2
   rw [if_neg c1, if_neg c2]
   have e : w64 (s.Heat - powI u.Parts s.Mass) = s.Heat - powI u.Parts s.Mass := Qca (by omega) (by omega)
   refine ⟨by simp only [e], a, by dsimp only; omega, ?_⟩
   simp only [e]
   exact ⟨m0, m1, by dsimp only; omega, by dsimp only; omega, s0, s1, g0, g1⟩
theorem Q4o {s t : GStream} {m : Int} (hs : StrV s) (ht : StrV t) (h0 : (conI s t m).2.2 = 0) :
  (conI s t m).1 = ⟨s.Mass + t.Mass, s.Heat + t.Heat, s.Silica + t.Silica, 0⟩ ∧ (conI s t m).2.1 = s.Gas + t.Gas ∧ s.Gas + t.Gas ≤ m ∧ StrV (conI s t m).1 := by
 have a1 := hs.m0; have a2 := hs.h0; have a3 := hs.h1; have a4 := hs.s0; have a5 := hs.s1; have a6 := hs.g0
 have b1 := ht.m0; have b2 := ht.h0; have b3 := ht.h1; have b4 := ht.s0; have b5 := ht.s1; have b6 := ht.g0
 unfold conI sumS at h0 ⊢
 dsimp only at h0 ⊢
 split at h0
 ·simp at h0
 ·rename_i c1
  split at h0
  ·simp at h0
  ·rename_i c2
   split at h0
   ·simp at h0
   ·rename_i c3
    rw [if_neg c1, if_neg c2, if_neg c3]
    refine ⟨rfl, rfl, by omega, ?_⟩
    exact ⟨by dsimp only; omega, by dsimp only; omega, by dsimp only; omega, by dsimp only; omega, by dsimp only; omega, by dsimp only; omega, by dsimp only; omega, by dsimp only; omega⟩
theorem Qzf {l : GLine} (h : LineV l) {s : GStream} (hs : StrV s) : RowV (Qdb l) ∧ getI l.Table l.Level = some (Qdb l) ∧ KeptF s (flG (Qdb l) s) := by
 obtain ⟨h1, h2⟩ := Q8g h.tab h.lev
 exact ⟨h2, h1, Q6q h2 hs⟩
theorem Qq3 (N : Nat) : Qex N 0 = some (.inl ()) := rfl
theorem Q3l (N : Nat) {e : Int} (h : e ≠ 0) : Qex N e = some (.inr e) := by
 unfold Qex
 have : (e != 0) = true := by simpa using h
 rw [this]
 rfl
theorem Q0h {N : Nat} (hN : 1001 ≤ N) {l : GLine} (ht : l.Table.length ≤ 1000) (s c : GStream) : Qh7 N l s c = some (bif Qtm l && (strB s && strB c) then setI l s c else (Q1b, 1)) := by
 unfold Qh7
 rw [show (⟨l.Table, l.Level, ⟨l.Unit.Inlet, l.Unit.Parts⟩, l.Most, l.Target, ⟨l.Cycle.Out, l.Cycle.Yield, l.Cycle.Most⟩⟩ : GLine) = l from rfl, Q6m l ht hN, Option.bind_some]
 cases h : Qtm l with
 | false => rfl
 | true =>
  have h := Qy7 h
  rw [Qsc (by omega), Option.bind_some]
  simp only [Bool.not_true, cond_false, Bool.true_and]
  cases hsc : strB s && strB c with
  | false => rfl
  | true =>
   simp only [Bool.and_eq_true] at hsc
   have hs := Qhu.1 hsc.1
   have hc := Qhu.1 hsc.2
   obtain ⟨h1, h2, h3⟩ := Qzf h hs
   simp only [Bool.not_true, cond_false, cond_true]
   have ef : Qhn N l.Table l.Level s = some (flG (Qdb l) s, 0) := by
    rw [Q6p hN ht]
    unfold Q35
    rw [h.tab, h.lev, hsc.1]
    rfl
   rw [ef, Option.bind_some, Qq3, Option.bind_some, Sum.elim_inl]
   unfold Qc5 Qfv Qg0 Qgi Qgj
   have e1 := Zbd (N := N) (by omega) l.Unit (flG (Qdb l) s).Steam
   rw [h.unit, Qhu.2 h3.st] at e1
   rw [show (⟨l.Unit.Inlet, l.Unit.Parts⟩ : GUnit) = l.Unit from rfl, show (⟨(flG (Qdb l) s).Steam.Mass, (flG (Qdb l) s).Steam.Heat, (flG (Qdb l) s).Steam.Silica, (flG (Qdb l) s).Steam.Gas⟩ : GStream) = (flG (Qdb l) s).Steam from rfl, e1]
   simp only [Bool.and_self, cond_true, Option.bind_some]
   unfold setI
   by_cases c1 : (expI l.Unit (flG (Qdb l) s).Steam).2.2 = 0
   ·obtain ⟨_, _, _, k1⟩ := Q36 h.unit h3.st c1
    rw [if_neg (by simpa using c1), c1, Qq3, Option.bind_some, Sum.elim_inl]
    have e2 := Zct (N := N) (by omega) (expI l.Unit (flG (Qdb l) s).Steam).1 c l.Most
    rw [Qhu.2 k1, hsc.2, h.most] at e2
    rw [show (⟨(expI l.Unit (flG (Qdb l) s).Steam).1.Mass, (expI l.Unit (flG (Qdb l) s).Steam).1.Heat, (expI l.Unit (flG (Qdb l) s).Steam).1.Silica, (expI l.Unit (flG (Qdb l) s).Steam).1.Gas⟩ : GStream) = (expI l.Unit (flG (Qdb l) s).Steam).1 from rfl, show (⟨c.Mass, c.Heat, c.Silica, c.Gas⟩ : GStream) = c from rfl, e2]
    simp only [Bool.and_self, cond_true, Option.bind_some]
    by_cases c2 : (conI (expI l.Unit (flG (Qdb l) s).Steam).1 c l.Most).2.2 = 0
    ·obtain ⟨_, _, _, k2⟩ := Q4o k1 hc c2
     rw [if_neg (by simpa using c2), c2, Qq3, Option.bind_some, Sum.elim_inl]
     rw [show (⟨(conI (expI l.Unit (flG (Qdb l) s).Steam).1 c l.Most).1.Mass, (conI (expI l.Unit (flG (Qdb l) s).Steam).1 c l.Most).1.Heat, (conI (expI l.Unit (flG (Qdb l) s).Steam).1 c l.Most).1.Silica, (conI (expI l.Unit (flG (Qdb l) s).Steam).1 c l.Most).1.Gas⟩ : GStream) = (conI (expI l.Unit (flG (Qdb l) s).Steam).1 c l.Most).1 from rfl, Zaq (by omega) (Qhu.2 k2) h.target]
     simp only [Option.bind_some, Qq3, Sum.elim_inl]
     rw [show (⟨l.Cycle.Out, l.Cycle.Yield, l.Cycle.Most⟩ : GCycle) = l.Cycle from rfl, show (⟨(flG (Qdb l) s).Water.Mass, (flG (Qdb l) s).Water.Heat, (flG (Qdb l) s).Water.Silica, (flG (Qdb l) s).Water.Gas⟩ : GStream) = (flG (Qdb l) s).Water from rfl, Zav (by omega) h.cyc (Qhu.2 h3.wa)]
     simp only [Option.bind_some, Qq3, Sum.elim_inl]
    ·rw [if_pos c2, Q3l N c2, Option.bind_some, Sum.elim_inr]
     rfl
   ·rw [if_pos c1, Q3l N c1, Option.bind_some, Sum.elim_inr]
    rfl
end Go.Proofs.YtlhakkkjgdbdpaaGreat
