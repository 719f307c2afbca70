/-
  Plain laws on a tick: the program's tick is this one. No conditions but validity.
-/
import Derived.Test.YtmbhnllcfmiajaaGreatPTa6
namespace Go.Proofs.YtmbhnllcfmiajaaGreat
open Go.RowKit
def ofL (k:Int):Nat→List GElement→List Int
 | _,[]=>[]
 | i,x::l=>if x.Kind=k then (i:Int)::ofL k (i+1) l else ofL k (i+1) l
theorem Qn8 (k:Int):∀ (l:List GElement) (i:Nat),(ofL k i l).length=(l.filter fun x=>decide (x.Kind=k)).length
 | [],_=>rfl
 | x::l,i=>by
  rw [ofL,List.filter_cons]
  by_cases h:x.Kind=k
  ·rw [if_pos h,if_pos (by simpa using h),List.length_cons,List.length_cons,Qn8 k l]
  ·rw [if_neg h,if_neg (by simpa using h),Qn8 k l]
theorem Qw7 (k:Int):∀ (l:List GElement) (i:Nat),∀ z ∈ ofL k i l,(i:Int)≤z∧z<(i:Int)+l.length
 | [],_,z,h=>by simp [ofL] at h
 | x::l,i,z,h=>by
  rw [ofL] at h
  simp only [List.length_cons]
  by_cases hk:x.Kind=k
  ·rw [if_pos hk] at h
   rcases List.mem_cons.1 h with rfl | h
   ·omega
   ·have:=Qw7 k l (i+1) z h; omega
  ·rw [if_neg hk] at h
   have:=Qw7 k l (i+1) z h; omega
section
variable {N : Nat} {n : GNet} (hs : Small n) (hN : 1001 ≤ N)
include hs in
theorem Zem (k:Int) (c:List Int→Option (List Int)):∀ (m i:Nat) (acc:List Int),(n.Elements.drop i).length<m→acc.length≤i→Qc7 N n k c m acc i=c (acc++ofL k i (n.Elements.drop i)):=by
 intro m
 induction m with
 | zero=>intro i _ h; exact absurd h (Nat.not_lt_zero _)
 | succ m ih=>
  intro i acc h ha
  rw [Qc7]
  cases hd:n.Elements.drop i with
  | nil=>
   have:=Qdd hd
   simp [show ¬ ((i:Int)<n.Elements.length) from by omega,ofL]
  | cons x l=>
   obtain ⟨hg,hd',hlt⟩:=Qce hd
   have e0:=hs.e
   simp only [show decide ((i:Int)<n.Elements.length)=true from by simpa using hlt,cond_true,Qd1 hg,Option.bind_some]
   rw [Qd8 (x:=(i:Int)+1) (by omega) (by omega),show (i:Int)+1=((i+1:Nat):Int) by omega,ofL]
   by_cases hk:x.Kind=k
   ·rw [show (x.Kind==k)=true by simpa using hk,cond_true,if_pos hk]
    simp only [chk]
    rw [show decide ((acc.length+[(i:Int)].length) * 8≤140737488355328)=true by simp; omega,cond_true,ih (i+1) _ (by rw [hd']; rw [hd] at h; simp at h; omega) (by simp; omega),hd',List.append_assoc]
    rfl
   ·rw [show (x.Kind==k)=false by simpa using hk,cond_false,if_neg hk,ih (i+1) _ (by rw [hd']; rw [hd] at h; simp at h; omega) (by omega),hd']
include hs hN in
theorem Zbs (k:Int):Qfv N n k=some (ofL k 0 n.Elements):=by
 have e0:=hs.e
 unfold Qfv
 simp only [Qby]
 refine (Zem hs k _ N 0 [] (by simp; omega) (by simp)).trans ?_
 rw [List.drop_zero,List.nil_append]
include hs hN in
end
section
variable {N : Nat} {n : GNet} (hs : Small n) (hN : 1001 ≤ N) (hv : NetV n) {ws : List GStream} (hf : FedV n ws) {i : Nat} {o : List (List GStream)} {ls : List GLost} (hI : InvT n ws i o ls) {x : GElement} (hx : n.Elements[i]? = some x)
include hv hI hx in
include hs hN hv hf hI hx in
end
section
variable {N : Nat} {n : GNet} (hN : 1001 ≤ N) (hv : NetV n) (ht : n.Table.length ≤ 1000) {i : Nat} {x : GElement} (hx : n.Elements[i]? = some x) {s : GStream} (hst : StrV s) {D nW : Nat} {ws : List GStream} {y : Int} {O : List (List GStream)} {Ls : List GLost} {Ss : List Int} {d : Int}
 (hlo:i<D) (hLs:Ls[i]? = some ⟨0,0,0,0⟩) (hSs:Ss[i]? = some d) (hd0:0≤d) (hd1:d≤1000000000000000) (hO:∃ r,O[i]? = some r) (hy0:0≤y) (hy1:y≤1000000000)
include hN hst hlo in
include hN hv ht hx hst hlo hLs hSs hd0 hd1 hy0 hy1 in
include hN hv ht hx hst hlo hLs hSs hd0 hd1 hO hy0 hy1 in
end
end Go.Proofs.YtmbhnllcfmiajaaGreat
