/-
  Plain: the account of any line is the document's, or the error is. No conditions.
-/
import Derived.Test.YtlhakkkjgdbdpaaGreatX9
import Derived.Test.YtlhakkkjgdbdpaaGreatPSet
namespace Go.Proofs.YtlhakkkjgdbdpaaGreat
open Go.RowKit
theorem Qyg (l : GLine) (s c : GStream) (_ : Q0p l) (_ : Qp1 s) (_ : Qp1 c) : Qgd (l.Table.length + l.Unit.Parts.length + 2000) l s c = some true := by
 generalize hM : l.Table.length + l.Unit.Parts.length + 2000 = N
 unfold Qgd Qku
 simp only [Q85, Option.bind_some]
 by_cases p1 : (l.Table.length : Int) > 30
 ·simp [p1, Qck]
 by_cases p2 : (l.Unit.Parts.length : Int) ≤ 10
 ·have ht : l.Table.length ≤ 1000 := by omega
  simp only [Qck, p1, p2, decide_false, decide_true, cond_false, Bool.not_true]
  rw [show (⟨l.Table, l.Level, ⟨l.Unit.Inlet, l.Unit.Parts⟩, l.Most, l.Target, ⟨l.Cycle.Out, l.Cycle.Yield, l.Cycle.Most⟩⟩ : GLine) = l from rfl, Qyv l ht (by omega) (by omega), Option.bind_some]
  simp only [Qfn, Option.bind_some]
  rw [show (⟨l.Table, l.Level, ⟨l.Unit.Inlet, l.Unit.Parts⟩, l.Most, l.Target, ⟨l.Cycle.Out, l.Cycle.Yield, l.Cycle.Most⟩⟩ : GLine) = l from rfl, Q1r (by omega) ht, Q73 l (by omega) (by omega) (by omega)]
  simp only [Option.bind_some, Q4q]
  cases h : Quj l with
  | false => rfl
  | true =>
   cases hs : strB s with
   | false => rfl
   | true =>
    cases hc : strB c with
    | false => rfl
    | true =>
     simp only [Bool.and_self, cond_true, Bool.not_true, cond_false]
     rw [Q1q (by omega) (Q0i h) (Qhe.1 hs) (Qhe.1 hc)]
     simp only [Option.bind_some, Qiz, Qfn, beq_self_eq_true, cond_true]
 ·simp [p1, p2, Qck]
end Go.Proofs.YtlhakkkjgdbdpaaGreat
