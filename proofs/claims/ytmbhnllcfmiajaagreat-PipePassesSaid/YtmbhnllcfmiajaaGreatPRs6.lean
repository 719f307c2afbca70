/-
  Plain laws on the document's shares and sums. No conditions but validity.
-/
import Derived.Test.YtmbhnllcfmiajaaGreatPSc6
import Derived.Test.YtmbhnllcfmiajaaGreatX7
namespace Go.Proofs.YtmbhnllcfmiajaaGreat
open Go.RowKit
theorem Q75 (N:Nat) (l:List GStream) (k:Int×Int×Int×Int→Option GStream) (hl:l.length≤1000000):∀ (n i:Nat) (a b c d:Int),(l.drop i).length<n →
  Qey N l k n i (w64 a) (w64 b) (w64 c) (w64 d)=k (w64 (a+(totS (l.drop i)).Mass),w64 (b+(totS (l.drop i)).Heat),w64 (c+(totS (l.drop i)).Silica),w64 (d+(totS (l.drop i)).Gas)):=by
 intro n
 induction n with
 | zero=>intro i _ _ _ _ h; exact absurd h (Nat.not_lt_zero _)
 | succ n ih=>
  intro i a b c d h
  rw [Qey]
  cases hd:l.drop i with
  | nil=>
   have:=Qcp hd
   simp [show ¬ ((i:Int)<l.length) from by omega,totS]
  | cons x q=>
   obtain ⟨hg,hd',hlt⟩:=Qb8 hd
   simp only [show decide ((i:Int)<l.length)=true from by simpa using hlt,cond_true,Qck hg,Option.bind_some,Qlp]
   rw [Qbd (x:=(i:Int)+1) (by omega) (by omega),show (i:Int)+1=((i+1:Nat):Int) by omega,ih (i+1) _ _ _ _ (by rw [hd']; rw [hd] at h; simp at h; omega),hd']
   simp only [totS,List.map_cons,List.sum_cons,Int.add_assoc]
theorem Zij {N:Nat} {l:List GStream} (hl:l.length≤1000) (hN:1001≤N):Qkp N l=some (totW l):=by
 unfold Qkp
 simp only [Qbp]
 have:=Q75 N l (fun x=>match x with | (y1,y2,y3,y4)=>some (⟨y1,y2,y3,y4⟩:GStream)) (by omega) N 0 0 0 0 0 (by simp; omega)
 rw [Quz,List.drop_zero] at this
 refine this.trans ?_
 simp [totW]
section
variable {N : Nat} {s : GStream} {ws : List Int} (hs : StrV s) (h : WtsV ws) (hN : 1001 ≤ N)
include h in
include hs h in
include hs h in
include hs h hN in
include hs in
include hs h in
include hs h hN in
end
end Go.Proofs.YtmbhnllcfmiajaaGreat
