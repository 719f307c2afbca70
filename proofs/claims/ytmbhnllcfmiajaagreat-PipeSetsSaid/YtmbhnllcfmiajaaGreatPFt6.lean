/-
  Plain laws on the document's errors, and on equal ticks. No conditions but small sizes.
-/
import Derived.Test.YtmbhnllcfmiajaaGreatPRd6
import Derived.Test.YtmbhnllcfmiajaaGreatPKo6
import Derived.Test.YtmbhnllcfmiajaaGreatPNet
namespace Go.Proofs.YtmbhnllcfmiajaaGreat
open Go.RowKit
theorem Q5r (N:Nat) (l:List Int) (k:Unit→Option Bool) (hl:l.length≤1000):∀ (m i:Nat),(l.drop i).length<m→Qd0 N l l k m i=k ():=by
 intro m
 induction m with
 | zero=>intro i h; exact absurd h (Nat.not_lt_zero _)
 | succ m ih=>
  intro i h
  rw [Qd0]
  cases hd:l.drop i with
  | nil=>
   have:=Qdd hd
   simp [show ¬ ((i:Int)<l.length) from by omega]
  | cons x q=>
   obtain ⟨hg,hd',hlt⟩:=Qce hd
   simp only [show decide ((i:Int)<l.length)=true from by simpa using hlt,cond_true,Qd1 hg,Option.bind_some,bne_self_eq_false,cond_false]
   rw [Qd8 (x:=(i:Int)+1) (by omega) (by omega),show (i:Int)+1=((i+1:Nat):Int) by omega,ih (i+1) (by rw [hd']; rw [hd] at h; simp at h; omega)]
theorem Zes {N:Nat} {l:List Int} (hl:l.length≤1000) (hN:1001≤N):Qi8 N l l=some true:=by
 unfold Qi8
 simp only [Qby,bne_self_eq_false,cond_false]
 exact Q5r N l _ hl N 0 (by simp; omega)
end Go.Proofs.YtmbhnllcfmiajaaGreat
