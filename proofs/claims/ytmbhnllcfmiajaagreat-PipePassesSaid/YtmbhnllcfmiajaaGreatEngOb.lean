/-
  The engine: a slice literal as a block of one's own. Plain laws; no conditions.
-/
import Derived.Test.YtmbhnllcfmiajaaGreatEngN
import Derived.Test.YtmbhnllcfmiajaaGreatEngY
namespace Go.Proofs.YtmbhnllcfmiajaaGreat
open Go.RowKit
section
variable {P : Program} {o : Oper}
end
theorem Q5c {P:Program} {o:Oper} {rd:List (Operand×AV)} {α:Type} {c:α→List AV} {q:List α} {bl eff:List (Nat×Slot)} {n ty m:Nat} (h:Qcg P o rd bl (.acc n ty m (q.map c)) eff) (hq:q=[]):Qcg P o rd bl (.dat m []) eff:=by
 subst hq
 exact Qsf Less.acc h
theorem Zl2 {α:Type} {l:List α} {c:Nat} (h:l.isEmpty=true):decide ((([]:List α).length+l.length) * c≤140737488355328)=true:=by
 rw [List.isEmpty_iff.1 h]
 simp
theorem Zi1 {α:Type} {l:List α} (h:l.isEmpty=true):([]:List α)++l=[]:=by rw [List.isEmpty_iff.1 h]; rfl
end Go.Proofs.YtmbhnllcfmiajaaGreat
