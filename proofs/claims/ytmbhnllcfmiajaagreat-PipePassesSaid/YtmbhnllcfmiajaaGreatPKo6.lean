/-
  Plain laws on what lies at the open ends of a net after a tick. No conditions but validity.
-/
import Derived.Test.YtmbhnllcfmiajaaGreatPTc6
namespace Go.Proofs.YtmbhnllcfmiajaaGreat
open Go.RowKit
section
variable {n : GNet} (hv : NetV n) {ws : List GStream} {o : List (List GStream)} {ls : List GLost} (hI : InvT n ws n.Elements.length o ls)
include hI
end
theorem Qwv (N:Nat) (l:List GStream) (k:List GStream→Option (List GStream)) (hl:l.length≤1000):∀ (m i:Nat) (acc:List GStream),(l.drop i).length<m→acc.length=i→Qdh N l k m acc i=k (acc++l.drop i):=by
 intro m
 induction m with
 | zero=>intro i _ h; exact absurd h (Nat.not_lt_zero _)
 | succ m ih=>
  intro i acc h ha
  rw [Qdh]
  cases hd:l.drop i with
  | nil=>
   have:=Qcp hd
   simp [show ¬ ((i:Int)<l.length) from by omega]
  | cons p q=>
   obtain ⟨hg,hd',hlt⟩:=Qb8 hd
   simp only [show decide ((i:Int)<l.length)=true from by simpa using hlt,cond_true,Qck hg,Qjj,Option.bind_some,chk]
   rw [show decide ((acc.length+[p].length) * 32≤140737488355328)=true by simp; omega,cond_true,Qbd (x:=(i:Int)+1) (by omega) (by omega),show (i:Int)+1=((i+1:Nat):Int) by omega,
    ih (i+1) _ (by rw [hd']; rw [hd] at h; simp at h; omega) (by simp [ha]),hd',List.append_assoc]
   rfl
theorem Q39 {N:Nat} {l:List GStream} (hl:l.length≤1000) (hN:1001≤N):Qgo N l=some l:=by
 unfold Qgo
 simp only [Qbp]
 refine (Qwv N l _ hl N 0 [] (by simp; omega) rfl).trans ?_
 rw [List.drop_zero,List.nil_append]
end Go.Proofs.YtmbhnllcfmiajaaGreat
