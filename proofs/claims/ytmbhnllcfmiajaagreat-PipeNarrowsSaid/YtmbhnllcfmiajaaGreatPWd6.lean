/-
  Plain laws on nets: widths. No conditions but small sizes.
-/
import Derived.Test.YtmbhnllcfmiajaaGreatPE6
namespace Go.Proofs.YtmbhnllcfmiajaaGreat
open Go.RowKit
def Qwr (n:GNet) (s:List Int):List Int:=List.zipWith widI n.Elements s
theorem Zg5 {n:GNet} {s:List Int} (h:stB n s=true) {i:Nat} {x:GElement} (hx:n.Elements[i]? = some x):∃ d,s[i]? = some d∧0≤d∧d≤1000000000000:=by
 unfold stB at h
 simp only [Bool.and_eq_true,decide_eq_true_eq] at h
 have hi:=(List.getElem?_eq_some_iff.1 hx).1
 have hi':i<s.length:=by omega
 obtain ⟨a,b⟩:=Qen.1 (List.all_eq_true.1 h.2 s[i] (List.getElem_mem hi'))
 exact ⟨s[i],List.getElem?_eq_getElem hi',a,b⟩
section
variable {N : Nat} {n : GNet} (hs : Small n) (hv : NetV n) (hN : 1001 ≤ N) {s : List Int} (hst : stB n s = true)
include hs hv hst
theorem Zax (k:List Int→Option (List Int×Int)):∀ (m i:Nat) (acc:List Int),(n.Elements.drop i).length<m→acc.length=i →
  Qd7 N n s k m acc i=k (acc++List.zipWith widI (n.Elements.drop i) (s.drop i)):=by
 intro m
 induction m with
 | zero=>intro i _ h; exact absurd h (Nat.not_lt_zero _)
 | succ m ih=>
  intro i acc h ha
  rw [Qd7]
  cases hd:n.Elements.drop i with
  | nil=>
   have:=Qcx hd
   simp [show ¬ ((i:Int)<n.Elements.length) from by omega]
  | cons x l=>
   obtain ⟨hg,hd',hlt⟩:=Qcc hd
   have e0:=hs.e
   obtain ⟨d,hgd,d0,d1⟩:=Zg5 hst hg
   have hds:s.drop i=d::s.drop (i+1):=by
    have hi:=(List.getElem?_eq_some_iff.1 hgd).1
    rw [List.drop_eq_getElem_cons hi]
    rw [List.getElem?_eq_getElem hi] at hgd
    cases hgd; rfl
   simp only [show decide ((i:Int)<n.Elements.length)=true from by simpa using hlt,cond_true,Qco hg,Qco hgd,Option.bind_some,Qwq N (hv.alone x (List.mem_of_getElem? hg)) d0 (show d≤9000000000000000000 by omega),chk]
   rw [show decide ((acc.length+[widI x d].length) * 8≤140737488355328)=true by simp; omega,cond_true,Qbe (x:=(i:Int)+1) (by omega) (by omega),show (i:Int)+1=((i+1:Nat):Int) by omega,ih (i+1) _ (by rw [hd']; rw [hd] at h; simp at h; omega) (by simp [ha]),hd',hds,List.zipWith_cons_cons,List.append_assoc]
   rfl
end
theorem Qwp {N:Nat} {n:GNet} (hs:Small n) (hN:1001≤N) {s:List Int} (hl:s.length≤1000):Qhk N n s=some (bif netB n&&stB n s then (Qwr n s,0) else ([],1)):=by
 have e0:=hs.e
 unfold Qhk
 rw [Qwy hs hN hl,Option.bind_some]
 cases hb:netB n&&stB n s with
 | false=>rfl
 | true=>
  rw [Bool.and_eq_true] at hb
  simp only [cond_true,show ((0:Int) != 0)=false from rfl,cond_false,Qbp]
  refine (Zax hs (Q7y hb.1) hb.2 _ N 0 [] (by simp; omega) rfl).trans ?_
  rw [List.drop_zero,List.drop_zero,List.nil_append]
  rfl
end Go.Proofs.YtmbhnllcfmiajaaGreat
