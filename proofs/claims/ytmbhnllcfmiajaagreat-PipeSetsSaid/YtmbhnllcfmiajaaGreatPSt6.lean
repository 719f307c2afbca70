/-
  Plain laws on states and cases, as the document has them. No conditions but small sizes.
-/
import Derived.Test.YtmbhnllcfmiajaaGreatPTc6
import Derived.Test.YtmbhnllcfmiajaaGreatX7
namespace Go.Proofs.YtmbhnllcfmiajaaGreat
open Go.RowKit
theorem Q1g (N:Nat) (n:GNet) (c:Int) (k:Int→Option Int) (hl:n.Elements.length≤1000):∀ (m i:Nat) (a:Int),(n.Elements.drop i).length<m→0≤a→a≤i →
  Qc5 N n c k m a i=k (a+(((n.Elements.drop i).filter fun x=>decide (x.Kind=c)).length:Int)):=by
 intro m
 induction m with
 | zero=>intro i _ h; exact absurd h (Nat.not_lt_zero _)
 | succ m ih=>
  intro i a h a0 a1
  rw [Qc5]
  cases hd:n.Elements.drop i with
  | nil=>
   have:=Qdd hd
   simp [show ¬ ((i:Int)<n.Elements.length) from by omega]
  | cons x q=>
   obtain ⟨hg,hd',hlt⟩:=Qce hd
   simp only [show decide ((i:Int)<n.Elements.length)=true from by simpa using hlt,cond_true,Qd1 hg,Option.bind_some]
   rw [Qd8 (x:=(i:Int)+1) (by omega) (by omega),show (i:Int)+1=((i+1:Nat):Int) by omega,List.filter_cons]
   by_cases hk:x.Kind=c
   ·rw [show (x.Kind==c)=true by simpa using hk,cond_true,Qd8 (x:=a+1) (by omega) (by omega),ih (i+1) _ (by rw [hd']; rw [hd] at h; simp at h; omega) (by omega) (by omega),hd',if_pos (by simpa using hk),List.length_cons]
    congr 1
    omega
   ·rw [show (x.Kind==c)=false by simpa using hk,cond_false,ih (i+1) _ (by rw [hd']; rw [hd] at h; simp at h; omega) (by omega) (by omega),hd',if_neg (by simpa using hk)]
def cntK (n:GNet) (c:Int):Nat:=(n.Elements.filter fun x=>decide (x.Kind=c)).length
theorem Zab {N:Nat} {n:GNet} (c:Int) (hl:n.Elements.length≤1000) (hN:1001≤N):Qh6 N n c=some (cntK n c:Int):=by
 unfold Qh6
 simp only [Qby]
 refine (Q1g N n c _ hl N 0 0 (by simp; omega) (Int.le_refl _) (by simp)).trans ?_
 rw [List.drop_zero,Int.zero_add]
 rfl
end Go.Proofs.YtmbhnllcfmiajaaGreat
