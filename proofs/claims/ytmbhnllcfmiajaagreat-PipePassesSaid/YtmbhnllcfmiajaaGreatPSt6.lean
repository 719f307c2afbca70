/-
  Plain laws on states and cases, as the document has them. No conditions but small sizes.
-/
import Derived.Test.YtmbhnllcfmiajaaGreatPTc6
import Derived.Test.YtmbhnllcfmiajaaGreatX7
namespace Go.Proofs.YtmbhnllcfmiajaaGreat
open Go.RowKit
theorem Q4c (N:Nat) (s:List Int) (k:Unit→Option Bool) (hl:s.length≤1000):∀ (m i:Nat),(s.drop i).length<m →
  Qcz N k s m i=bif (s.drop i).all (fun x=>btw x 0 1000000000000) then k () else some false:=by
 intro m
 induction m with
 | zero=>intro i h; exact absurd h (Nat.not_lt_zero _)
 | succ m ih=>
  intro i h
  rw [Qcz]
  cases hd:s.drop i with
  | nil=>
   have:=Qcp hd
   simp [show ¬ ((i:Int)<s.length) from by omega]
  | cons x l=>
   obtain ⟨hg,hd',hlt⟩:=Qb8 hd
   simp only [show decide ((i:Int)<s.length)=true from by simpa using hlt,cond_true,Qck hg,Option.bind_some,Qz2,List.all_cons]
   cases btw x 0 1000000000000 with
   | false=>rfl
   | true=>rw [Bool.not_true,cond_false,Qbd (x:=(i:Int)+1) (by omega) (by omega),show (i:Int)+1=((i+1:Nat):Int) by omega,ih (i+1) (by rw [hd']; rw [hd] at h; simp at h; omega),hd',Bool.true_and]
theorem Q4d {N:Nat} {n:GNet} {s:List Int} (hl:s.length≤1000) (hN:1001≤N):Qf6 N n s=some (stB n s):=by
 unfold Qf6 stB
 simp only [Qbp]
 have:=Q4c N s (fun _=>some ((s.length:Int)==(n.Elements.length:Int))) hl N 0 (by simp; omega)
 rw [List.drop_zero] at this
 refine this.trans ?_
 have e:((s.length:Int)==(n.Elements.length:Int))=decide (s.length=n.Elements.length):=by
  by_cases h:s.length=n.Elements.length
  ·rw [h]; simp
  ·rw [decide_eq_false h,beq_eq_false_iff_ne]; omega
 rw [e]
 cases s.all fun x=>btw x 0 1000000000000<;>simp
theorem Q77 (N:Nat) (l:List GStream) (k:Unit→Option Bool) (hl:l.length≤1000):∀ (m i:Nat),(l.drop i).length<m →
  Qdf N l k m i=bif (l.drop i).all strB then k () else some false:=by
 intro m
 induction m with
 | zero=>intro i h; exact absurd h (Nat.not_lt_zero _)
 | succ m ih=>
  intro i h
  rw [Qdf]
  cases hd:l.drop i with
  | nil=>
   have:=Qcp hd
   simp [show ¬ ((i:Int)<l.length) from by omega]
  | cons x q=>
   obtain ⟨hg,hd',hlt⟩:=Qb8 hd
   simp only [show decide ((i:Int)<l.length)=true from by simpa using hlt,cond_true,Qck hg,Option.bind_some,Q8j,List.all_cons]
   cases strB x with
   | false=>rfl
   | true=>rw [Bool.not_true,cond_false,Qbd (x:=(i:Int)+1) (by omega) (by omega),show (i:Int)+1=((i+1:Nat):Int) by omega,ih (i+1) (by rw [hd']; rw [hd] at h; simp at h; omega),hd',Bool.true_and]
theorem Zb1 {N:Nat} {l:List GStream} (hl:l.length≤1000) (hN:1001≤N):Qg9 N l=some (l.all strB):=by
 unfold Qg9
 simp only [Qbp]
 refine (Q77 N l _ hl N 0 (by simp; omega)).trans ?_
 rw [List.drop_zero]
 cases l.all strB<;>rfl
theorem Q4u (N:Nat) (n:GNet) (c:Int) (k:Int→Option Int) (hl:n.Elements.length≤1000):∀ (m i:Nat) (a:Int),(n.Elements.drop i).length<m→0≤a→a≤i →
  Qdj N n c k m a i=k (a+(((n.Elements.drop i).filter fun x=>decide (x.Kind=c)).length:Int)):=by
 intro m
 induction m with
 | zero=>intro i _ h; exact absurd h (Nat.not_lt_zero _)
 | succ m ih=>
  intro i a h a0 a1
  rw [Qdj]
  cases hd:n.Elements.drop i with
  | nil=>
   have:=Qcp hd
   simp [show ¬ ((i:Int)<n.Elements.length) from by omega]
  | cons x q=>
   obtain ⟨hg,hd',hlt⟩:=Qb8 hd
   simp only [show decide ((i:Int)<n.Elements.length)=true from by simpa using hlt,cond_true,Qck hg,Option.bind_some]
   rw [Qbd (x:=(i:Int)+1) (by omega) (by omega),show (i:Int)+1=((i+1:Nat):Int) by omega,List.filter_cons]
   by_cases hk:x.Kind=c
   ·rw [show (x.Kind==c)=true by simpa using hk,cond_true,Qbd (x:=a+1) (by omega) (by omega),ih (i+1) _ (by rw [hd']; rw [hd] at h; simp at h; omega) (by omega) (by omega),hd',if_pos (by simpa using hk),List.length_cons]
    congr 1
    omega
   ·rw [show (x.Kind==c)=false by simpa using hk,cond_false,ih (i+1) _ (by rw [hd']; rw [hd] at h; simp at h; omega) (by omega) (by omega),hd',if_neg (by simpa using hk)]
def cntK (n:GNet) (c:Int):Nat:=(n.Elements.filter fun x=>decide (x.Kind=c)).length
theorem Zec {N:Nat} {n:GNet} (c:Int) (hl:n.Elements.length≤1000) (hN:1001≤N):Qix N n c=some (cntK n c:Int):=by
 unfold Qix
 simp only [Qbp]
 refine (Q4u N n c _ hl N 0 0 (by simp; omega) (Int.le_refl _) (by simp)).trans ?_
 rw [List.drop_zero,Int.zero_add]
 rfl
theorem Q93 (n:GNet):cntK n 1=wcn n n.Elements.length:=by unfold cntK wcn; rw [List.take_length]
end Go.Proofs.YtmbhnllcfmiajaaGreat
