/-
  Plain laws on nets: the document's open ends. No conditions but small sizes.
-/
import Derived.Test.YtmbhnllcfmiajaaGreatPE6
namespace Go.Proofs.YtmbhnllcfmiajaaGreat
open Go.RowKit
section
variable {N : Nat} {n : GNet} (hs : Small n) (hN : 1001 ≤ N)
include hs
theorem Q0c (k:List GPort→Option (List GPort)):∀ (m i:Nat) (u:List GPort),(n.Elements.drop i).length<m→u.length≤25 * i →
  Qeu N n k m u i=k (u++(n.Elements.drop i).flatMap fun x=>x.From):=by
 intro m
 induction m with
 | zero=>intro i _ h; exact absurd h (Nat.not_lt_zero _)
 | succ m ih=>
  intro i u h hu
  rw [Qeu]
  cases hd:n.Elements.drop i with
  | nil=>
   have:=Qbx hd
   simp [show ¬ ((i:Int)<n.Elements.length) from by omega]
  | cons x l=>
   obtain ⟨hg,hd',hlt⟩:=Qbl hd
   have e0:=hs.e
   have hx:=hs.x x (List.mem_of_getElem? hg)
   simp only [show decide ((i:Int)<n.Elements.length)=true from by simpa using hlt,cond_true,Qbu hg,Option.bind_some,chk]
   rw [show decide ((u.length+x.From.length) * 16≤140737488355328)=true by simp; omega,cond_true,Qa2 (x:=(i:Int)+1) (by omega) (by omega),show (i:Int)+1=((i+1:Nat):Int) by omega,ih (i+1) _ (by rw [hd']; rw [hd] at h; simp at h; omega) (by simp; omega),hd',List.flatMap_cons,List.append_assoc]
include hN
theorem Qx7 {i:Nat} {x:GElement} (hx:n.Elements[i]? = some x) (u:List GPort) (hu:u.length≤1000) (k:List GPort×List GPort→Option (List GPort)):∀ (m j:Nat) (acc:List GPort),(outl x).toNat - j<m→j≤(outl x).toNat→acc.length≤25 * i+j →
  Qd3 N n i k m u acc j=k (u,acc++((List.range' j ((outl x).toNat - j)).map (fun k:Nat=>(⟨(i:Int),(k:Int)⟩:GPort))).filter fun p=>!(u.map pq).contains (pq p)):=by
 intro m
 induction m with
 | zero=>intro j _ h; exact absurd h (Nat.not_lt_zero _)
 | succ m ih=>
  intro j acc h hj ha
  have e0:=hs.e
  have hi:i<n.Elements.length:=(List.getElem?_eq_some_iff.1 hx).1
  obtain ⟨o0,o1⟩:=Qrf (hs.x x (List.mem_of_getElem? hx)).2
  rw [Qd3]
  simp only [Qbu hx,Option.bind_some,Zct]
  by_cases hlt:j<(outl x).toNat
  ·rw [show decide ((j:Int)<outl x)=true by rw [decide_eq_true_eq]; omega,cond_true,Q6r hN hu,Option.bind_some,Qa2 (x:=(j:Int)+1) (by omega) (by omega),show (j:Int)+1=((j+1:Nat):Int) by omega,show (outl x).toNat - j=((outl x).toNat - (j+1))+1 by omega,List.range'_succ,List.map_cons,List.filter_cons]
   cases hc:(u.map pq).contains (pq ⟨(i:Int),(j:Int)⟩) with
   | true=>
    simp only [Bool.not_true,cond_false]
    rw [ih (j+1) acc (by omega) (by omega) (by omega)]
    simp
   | false=>
    simp only [Bool.not_false,cond_true,chk]
    rw [show decide ((acc.length+[(⟨(i:Int),(j:Int)⟩:GPort)].length) * 16≤140737488355328)=true by simp; omega,cond_true,ih (j+1) _ (by omega) (by omega) (by simp; omega)]
    simp
  ·rw [show decide ((j:Int)<outl x)=false by rw [decide_eq_false_iff_not]; omega,cond_false,show (outl x).toNat - j=0 by omega]
   simp
theorem Q0d (u:List GPort) (hu:u.length≤1000) (k:List GPort→Option (List GPort)):∀ (m i:Nat) (acc:List GPort),(n.Elements.drop i).length<m→acc.length≤25 * i →
  Qev N n k m u acc i=k (acc++(Qk4 i (n.Elements.drop i)).filter fun p=>!(u.map pq).contains (pq p)):=by
 intro m
 induction m with
 | zero=>intro i _ h; exact absurd h (Nat.not_lt_zero _)
 | succ m ih=>
  intro i acc h ha
  rw [Qev]
  cases hd:n.Elements.drop i with
  | nil=>
   have:=Qbx hd
   simp [show ¬ ((i:Int)<n.Elements.length) from by omega,Qk4]
  | cons x l=>
   obtain ⟨hg,hd',hlt⟩:=Qbl hd
   have e0:=hs.e
   obtain ⟨o0,o1⟩:=Qrf (hs.x x (List.mem_of_getElem? hg)).2
   simp only [show decide ((i:Int)<n.Elements.length)=true from by simpa using hlt,cond_true,Qbb]
   have hlen:=List.length_filter_le (fun p=>!(u.map pq).contains (pq p)) ((List.range' 0 (outl x).toNat).map (fun k:Nat=>(⟨(i:Int),(k:Int)⟩:GPort)))
   simp only [List.length_map,List.length_range'] at hlen
   refine (Qx7 hs hN hg u hu _ N 0 acc (by omega) (Nat.zero_le _) (by omega)).trans ?_
   dsimp only
   rw [Qa2 (x:=(i:Int)+1) (by omega) (by omega),show (i:Int)+1=((i+1:Nat):Int) by omega,ih (i+1) _ (by rw [hd']; rw [hd] at h; simp at h; omega) (by rw [List.length_append,Nat.sub_zero]; omega),hd',Qk4,List.filter_append,Nat.sub_zero,List.range_eq_range',List.append_assoc]
theorem Q7w:Qk3 N n=some (Qnu n):=by
 have e0:=hs.e
 unfold Qk3
 simp only [Qbb]
 refine (Q0c hs _ N 0 [] (by simp; omega) (by simp)).trans ?_
 rw [List.drop_zero,List.nil_append]
 have hu:(n.Elements.flatMap fun x=>x.From).length≤1000:=by
  have:∀ l:List GElement,(∀ x ∈ l,x.From.length≤25)→(l.flatMap fun x=>x.From).length≤25 * l.length:=by
   intro l
   induction l with
   | nil=>intro _; simp
   | cons a l ih=>
    intro h
    have h1:=ih fun x hx=>h x (List.mem_cons_of_mem _ hx)
    have h2:=h a List.mem_cons_self
    simp only [List.flatMap_cons,List.length_append,List.length_cons]
    omega
  have:=this n.Elements fun x hx=>(hs.x x hx).1
  omega
 have hm:((n.Elements.flatMap fun x=>x.From).map pq)=Qxw n:=by
  unfold Qxw
  rw [List.map_flatMap]
 refine (Q0d hs hN _ hu _ N 0 [] (by simp; omega) (by simp)).trans ?_
 rw [List.drop_zero,List.nil_append,hm]
 rfl
end
end Go.Proofs.YtmbhnllcfmiajaaGreat
