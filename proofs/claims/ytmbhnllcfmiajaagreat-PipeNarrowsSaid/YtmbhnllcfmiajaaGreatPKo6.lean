/-
  Plain laws on what lies at the open ends of a net after a tick. No conditions but validity.
-/
import Derived.Test.YtmbhnllcfmiajaaGreatPTc6
namespace Go.Proofs.YtmbhnllcfmiajaaGreat
open Go.RowKit
theorem Q2u (i:Nat):∀ (r:List GStream) (j:Nat),Qnx i j r=(List.range r.length).map fun k:Nat=>(((i:Int),((j+k:Nat):Int)),r.getD k zs)
 | [],_=>rfl
 | x::r,j=>by
  rw [Qnx,Q2u i r (j+1),List.length_cons,List.range_succ_eq_map,List.map_cons,List.map_map]
  congr 1
  apply List.map_congr_left
  intro k _
  simp [show j+1+k=j+(k+1) by omega]
theorem Qt2 (O:List (List GStream)):∀ (els:List GElement) (o pre:List (List GStream)),O=pre++o→els.length=o.length→(∀ (k:Nat) y r,els[k]? = some y→o[k]? = some r→(r.length:Int)=outl y) →
  Qgv pre.length o=(Qxc pre.length els).map fun p=>(pq p,Qhi O p)
 | [],[],_,_,_,_=>rfl
 | x::els,r::o,pre,hO,hl,hr=>by
  have h1:=hr 0 x r rfl rfl
  have ih:=Qt2 O els o (pre++[r]) (by rw [hO]; simp) (by simpa using hl) fun k y q hy hq=>hr (k+1) y q (by simpa using hy) (by simpa using hq)
  rw [List.length_append,List.length_singleton] at ih
  rw [Qgv,Qxc,List.map_append,ih,Q2u,List.map_map,show (outl x).toNat=r.length by omega]
  congr 1
  apply List.map_congr_left
  intro k hk
  have hk':=List.mem_range.1 hk
  have hg:O.getD pre.length []=r:=by rw [hO,List.getD_eq_getElem?_getD,List.getElem?_append_right (Nat.le_refl _),Nat.sub_self]; rfl
  simp only [Function.comp,pq,Qhi,Int.toNat_natCast,hg,Nat.zero_add]
 | [],_::_,_,_,h,_=>by simp at h
 | _::_,[],_,_,h,_=>by simp at h
def Qzt (n:GNet) (o:List (List GStream)):List GStream:=(Zii n).map (Qhi o)
section
variable {n : GNet} (hv : NetV n) {ws : List GStream} {o : List (List GStream)} {ls : List GLost} (hI : InvT n ws n.Elements.length o ls)
include hI
theorem Qxi:Qgv 0 o=(Qxc 0 n.Elements).map fun p=>(pq p,Qhi o p):=Qt2 o n.Elements o [] rfl hI.lo.symm hI.rows
theorem Zbd (f:GStream→Int):Qgg f (Qg7 n n.Elements.length) (Qgv 0 o)=((Qzt n o).map f).sum:=by
 rw [Q37,Qxi hI]
 unfold Qgg Qzt Zii
 rw [List.filter_map,List.map_map,List.map_map]
 rfl
theorem Zhm {p:GPort} (hp:p ∈ Zii n):0≤p.Element∧0≤p.Outlet∧∃ r,o[p.Element.toNat]? = some r∧r[p.Outlet.toNat]? = some (Qhi o p):=by
 have h1:(pq p,Qhi o p) ∈ Qgv 0 o:=by
  rw [Qxi hI]
  exact List.mem_map.2 ⟨p,(List.mem_filter.1 hp).1,rfl⟩
 obtain ⟨a,b,r,c,d⟩:=Qml.1 h1
 refine ⟨by simpa using a,b,r,?_,d⟩
 rw [show (p.Element - ((0:Nat):Int)).toNat=p.Element.toNat by simp] at c
 exact c
theorem Zj2:∀ s ∈ Qzt n o,StrV s:=fun s hs=>by
 obtain ⟨p,hp,rfl⟩:=List.mem_map.1 hs
 obtain ⟨_,_,r,h1,h2⟩:=Zhm hI hp
 exact hI.v r (List.mem_of_getElem? h1) _ (List.mem_of_getElem? h2)
theorem Q65 (hf:FedV n ws):(totS (Qzt n o)).Mass=(totS ws).Mass∧(totS (Qzt n o)).Heat+(ls.map fun l=>l.Heat).sum=(totS ws).Heat∧(totS (Qzt n o)).Silica+(ls.map fun l=>l.Silica).sum+(ls.map fun l=>l.Scale).sum=(totS ws).Silica∧(totS (Qzt n o)).Gas+(ls.map fun l=>l.Gas).sum=(totS ws).Gas:=by
 have e:ws.take (wcn n n.Elements.length)=ws:=List.take_of_length_le (by rw [hf.len]; exact Nat.le_refl _)
 have h1:=hI.m
 have h2:=hI.h
 have h3:=hI.q
 have h4:=hI.g
 rw [Zbd hI,e] at h1 h2 h3 h4
 exact ⟨h1,h2,h3,h4⟩
end
theorem Qwx (N:Nat) (l:List GStream) (k:List GStream→Option (List GStream)) (hl:l.length≤1000):∀ (m i:Nat) (acc:List GStream),(l.drop i).length<m→acc.length=i→Qdi N l k m acc i=k (acc++l.drop i):=by
 intro m
 induction m with
 | zero=>intro i _ h; exact absurd h (Nat.not_lt_zero _)
 | succ m ih=>
  intro i acc h ha
  rw [Qdi]
  cases hd:l.drop i with
  | nil=>
   have:=Qcx hd
   simp [show ¬ ((i:Int)<l.length) from by omega]
  | cons p q=>
   obtain ⟨hg,hd',hlt⟩:=Qcc hd
   simp only [show decide ((i:Int)<l.length)=true from by simpa using hlt,cond_true,Qco hg,Qjt,Option.bind_some,chk]
   rw [show decide ((acc.length+[p].length) * 32≤140737488355328)=true by simp; omega,cond_true,Qbe (x:=(i:Int)+1) (by omega) (by omega),show (i:Int)+1=((i+1:Nat):Int) by omega,
    ih (i+1) _ (by rw [hd']; rw [hd] at h; simp at h; omega) (by simp [ha]),hd',List.append_assoc]
   rfl
theorem Qtm {N:Nat} {l:List GStream} (hl:l.length≤1000) (hN:1001≤N):Qf1 N l=some l:=by
 unfold Qf1
 simp only [Qbp]
 refine (Qwx N l _ hl N 0 [] (by simp; omega) rfl).trans ?_
 rw [List.drop_zero,List.nil_append]
def Qs4 (ls:List GLost):GLost:=⟨(ls.map fun l=>l.Heat).sum,(ls.map fun l=>l.Silica).sum,(ls.map fun l=>l.Gas).sum,(ls.map fun l=>l.Scale).sum⟩
theorem Zbk {n:GNet} {ws:List GStream} {o:List (List GStream)} {ls:List GLost} (hI:InvT n ws n.Elements.length o ls) (hf:FedV n ws):(0≤(Qs4 ls).Heat∧(Qs4 ls).Heat≤4000000000)∧(0≤(Qs4 ls).Silica∧(Qs4 ls).Silica≤10000000000)∧(0≤(Qs4 ls).Gas∧(Qs4 ls).Gas≤1000000000)∧0≤(Qs4 ls).Scale∧(Qs4 ls).Scale≤10000000000:=by
 obtain ⟨k1,k2,k3,k4⟩:=Q65 hI hf
 have v:=Ql4 (Zj2 hI)
 have w:=Ql4 hf.v
 have hm:=hf.m
 have hg:=hf.g
 have n1:=Qfz (fun l:GLost=>l.Heat) ls fun l h=>(hI.l0 l h).1
 have n2:=Qfz (fun l:GLost=>l.Silica) ls fun l h=>(hI.l0 l h).2.1
 have n3:=Qfz (fun l:GLost=>l.Gas) ls fun l h=>(hI.l0 l h).2.2.1
 have n4:=Qfz (fun l:GLost=>l.Scale) ls fun l h=>(hI.l0 l h).2.2.2
 have:=v.h0
 have:=v.s0
 have:=v.g0
 have:=w.h1
 have:=w.s1
 unfold Qs4
 dsimp only
 omega
end Go.Proofs.YtmbhnllcfmiajaaGreat
