/-
  Plain laws on a tick: the program's tick is this one. No conditions but validity.
-/
import Derived.Test.YtmbhnllcfmiajaaGreatPTa6
namespace Go.Proofs.YtmbhnllcfmiajaaGreat
open Go.RowKit
def ofL (k:Int):Nat→List GElement→List Int
 | _,[]=>[]
 | i,x::l=>if x.Kind=k then (i:Int)::ofL k (i+1) l else ofL k (i+1) l
theorem Qrp (k:Int):∀ (l:List GElement) (i:Nat),(ofL k i l).length=(l.filter fun x=>decide (x.Kind=k)).length
 | [],_=>rfl
 | x::l,i=>by
  rw [ofL,List.filter_cons]
  by_cases h:x.Kind=k
  ·rw [if_pos h,if_pos (by simpa using h),List.length_cons,List.length_cons,Qrp k l]
  ·rw [if_neg h,if_neg (by simpa using h),Qrp k l]
theorem Qzu (k:Int):∀ (l:List GElement) (i:Nat),∀ z ∈ ofL k i l,(i:Int)≤z∧z<(i:Int)+l.length
 | [],_,z,h=>by simp [ofL] at h
 | x::l,i,z,h=>by
  rw [ofL] at h
  simp only [List.length_cons]
  by_cases hk:x.Kind=k
  ·rw [if_pos hk] at h
   rcases List.mem_cons.1 h with rfl | h
   ·omega
   ·have:=Qzu k l (i+1) z h; omega
  ·rw [if_neg hk] at h
   have:=Qzu k l (i+1) z h; omega
theorem Qtm (k:Int):∀ (l m:List GElement) (i:Nat),ofL k i (l++m)=ofL k i l++ofL k (i+l.length) m
 | [],m,i=>by simp [ofL]
 | x::l,m,i=>by
  rw [List.cons_append,ofL,ofL,Qtm k l m (i+1),List.length_cons,show i+1+l.length=i+(l.length+1) by omega]
  by_cases h:x.Kind=k
  ·rw [if_pos h,if_pos h,List.cons_append]
  ·rw [if_neg h,if_neg h]
section
variable {N : Nat} {n : GNet} (hs : Small n) (hN : 1001 ≤ N)
include hs in
theorem Ziz (k:Int) (c:List Int→Option (List Int)):∀ (m i:Nat) (acc:List Int),(n.Elements.drop i).length<m→acc.length≤i→Qdl N n k c m acc i=c (acc++ofL k i (n.Elements.drop i)):=by
 intro m
 induction m with
 | zero=>intro i _ h; exact absurd h (Nat.not_lt_zero _)
 | succ m ih=>
  intro i acc h ha
  rw [Qdl]
  cases hd:n.Elements.drop i with
  | nil=>
   have:=Qcp hd
   simp [show ¬ ((i:Int)<n.Elements.length) from by omega,ofL]
  | cons x l=>
   obtain ⟨hg,hd',hlt⟩:=Qb8 hd
   have e0:=hs.e
   simp only [show decide ((i:Int)<n.Elements.length)=true from by simpa using hlt,cond_true,Qck hg,Option.bind_some]
   rw [Qbd (x:=(i:Int)+1) (by omega) (by omega),show (i:Int)+1=((i+1:Nat):Int) by omega,ofL]
   by_cases hk:x.Kind=k
   ·rw [show (x.Kind==k)=true by simpa using hk,cond_true,if_pos hk]
    simp only [chk]
    rw [show decide ((acc.length+[(i:Int)].length) * 8≤140737488355328)=true by simp; omega,cond_true,ih (i+1) _ (by rw [hd']; rw [hd] at h; simp at h; omega) (by simp; omega),hd',List.append_assoc]
    rfl
   ·rw [show (x.Kind==k)=false by simpa using hk,cond_false,if_neg hk,ih (i+1) _ (by rw [hd']; rw [hd] at h; simp at h; omega) (by omega),hd']
include hs hN in
theorem Zfv (k:Int):Qhh N n k=some (ofL k 0 n.Elements):=by
 have e0:=hs.e
 unfold Qhh
 simp only [Qbp]
 refine (Ziz hs k _ N 0 [] (by simp; omega) (by simp)).trans ?_
 rw [List.drop_zero,List.nil_append]
theorem Q4p (P S:List Int) (p:Int) (hp:p ∉ P) (hl:P.length≤1000) (k:Unit→Option Int):∀ (m i:Nat),P.length - i<m→i≤P.length→Qce N (P++p::S) k p m i=some (P.length:Int):=by
 intro m
 induction m with
 | zero=>intro i h; exact absurd h (Nat.not_lt_zero _)
 | succ m ih=>
  intro i h hi
  rw [Qce]
  rw [show decide ((i:Int)<((P++p::S).length:Int))=true by simp; omega,cond_true]
  by_cases hlt:i<P.length
  ·have hg:(P++p::S)[i]? = some P[i]:=by rw [List.getElem?_append_left hlt,List.getElem?_eq_getElem hlt]
   rw [Qck hg,Option.bind_some,show (p==P[i])=false by rw [beq_eq_false_iff_ne]; intro e; exact hp (e ▸ List.getElem_mem hlt),cond_false,Qbd (x:=(i:Int)+1) (by omega) (by omega),show (i:Int)+1=((i+1:Nat):Int) by omega]
   exact ih (i+1) (by omega) (by omega)
  ·have e:i=P.length:=by omega
   subst e
   have hg:(P++p::S)[P.length]? = some p:=by rw [List.getElem?_append_right (Nat.le_refl _)]; simp
   rw [Qck hg,Option.bind_some,beq_self_eq_true,cond_true]
include hs hN in
theorem Zid {i:Nat} {x:GElement} (hx:n.Elements[i]? = some x) (h1:x.Kind=1):Qeo N (ofL 1 0 n.Elements) i=some (wcn n i:Int):=by
 have hi:=(List.getElem?_eq_some_iff.1 hx).1
 have e0:=hs.e
 have e:n.Elements=n.Elements.take i++x::n.Elements.drop (i+1):=by
  have:n.Elements.drop i=x::n.Elements.drop (i+1):=by
   rw [List.drop_eq_getElem_cons hi]
   rw [List.getElem?_eq_getElem hi] at hx
   cases hx
   rfl
  rw [← this,List.take_append_drop]
 have hlt:(n.Elements.take i).length=i:=by rw [List.length_take]; omega
 have e2:ofL 1 0 n.Elements=ofL 1 0 (n.Elements.take i)++(i:Int)::ofL 1 (i+1) (n.Elements.drop (i+1)):=by
  have e3:ofL 1 0 n.Elements=ofL 1 0 (n.Elements.take i++x::n.Elements.drop (i+1)):=congrArg (ofL 1 0) e
  rw [e3,Qtm,hlt,ofL,if_pos h1,Nat.zero_add]
 have hlen:(ofL 1 0 (n.Elements.take i)).length=wcn n i:=Qrp 1 _ 0
 have hb:wcn n i≤18:=by
  rw [← hlen,Qrp]
  have:=List.length_filter_le (fun x:GElement=>decide (x.Kind=1)) (n.Elements.take i)
  omega
 unfold Qeo
 simp only [Qbp]
 rw [e2]
 have:=Q4p (N:=N) (ofL 1 0 (n.Elements.take i)) (ofL 1 (i+1) (n.Elements.drop (i+1))) (i:Int) (fun hm=>by
  have:=Qzu 1 _ 0 _ hm
  omega) (by omega) (fun _=>some (-1)) N 0 (by omega) (Nat.zero_le _)
 rw [hlen] at this
 exact this
theorem Qmw (k:List GStream→Option (List GStream)):∀ (q y:List GStream),y.length+q.length≤1000→Qau N k q y=k (y++q)
 | [],y,_=>by simp [Qau]
 | x::q,y,h=>by
  have hc:decide ((y.length+[x].length) * 32≤140737488355328)=true:=by simp at h ⊢; omega
  rw [Qau]
  simp only [chk]
  rw [hc,cond_true,Qmw k q _ (by simp at h ⊢; omega)]
  simp
end
section
variable {N : Nat} {n : GNet} (hs : Small n) (hN : 1001 ≤ N) (hv : NetV n) {ws : List GStream} (hf : FedV n ws) {i : Nat} {o : List (List GStream)} {ls : List GLost} (hI : InvT n ws i o ls) {x : GElement} (hx : n.Elements[i]? = some x)
include hv hI hx in
theorem Q9e (hfr:x.From.length≤1000) (R:List (List GStream)):∀ (m j:Nat),(x.From.drop j).length<m→Qc0 N x (o++R) m j=some ((x.From.drop j).map (Qgd o)):=by
 intro m
 induction m with
 | zero=>intro j h; exact absurd h (Nat.not_lt_zero _)
 | succ m ih=>
  intro j h
  rw [Qc0]
  cases hd:x.From.drop j with
  | nil=>
   have:=Qcp hd
   simp [show ¬ ((j:Int)<x.From.length) from by omega]
  | cons p l=>
   obtain ⟨hg,hd',hlt⟩:=Qb8 hd
   have hpm:=List.mem_of_getElem? hg
   obtain ⟨p1,_,_,_,p4,_,_⟩:=hv.port i x p hx hpm
   obtain ⟨_,_,r,hr,hr2⟩:=Ql8 hv hI hx hpm
   have g1:getI (o++R) p.Element=some r:=by
    unfold getI
    rw [if_pos p1,List.getElem?_append_left (List.getElem?_eq_some_iff.1 hr).1,hr]
   have g2:getI r p.Outlet=some (Qgd o p):=by
    unfold getI
    rw [if_pos p4,hr2]
   simp only [show decide ((j:Int)<x.From.length)=true from by simpa using hlt,cond_true,Qck hg,Option.bind_some,g1,g2]
   rw [Qbd (x:=(j:Int)+1) (by omega) (by omega),show (j:Int)+1=((j+1:Nat):Int) by omega,ih (j+1) (by rw [hd']; rw [hd] at h; simp at h; omega),hd']
   rfl
include hs hN hv hf hI hx in
theorem Zjd (R:List (List GStream)) (L:List GLost) (S:List Int) (y:Int):Qby N n.Table n.Elements (o++R) L S ws y i=some (insE o (ws.drop (wcn n i)) x):=by
 have hxs:=hs.x x (List.mem_of_getElem? hx)
 have hS:Qf7 N n.Table n.Elements (o++R) L S ws y i=some (insE o (ws.drop (wcn n i)) x):=by
  unfold Qf7 insE
  rw [Qck hx,Option.bind_some]
  by_cases h1:x.Kind=1
  ·rw [show (x.Kind==1)=true by simpa using h1,cond_true,if_pos h1]
   have hw:=Qk5 hx
   rw [if_pos h1] at hw
   have hle:=Q7z (n:=n) (i:=i+1)
   have hlt:wcn n i<ws.length:=by rw [hf.len]; omega
   rw [Zfv hs hN 1,Option.bind_some,Zid hs hN hx h1,Option.bind_some,Qck (List.getElem?_eq_getElem hlt),Option.bind_some,List.drop_eq_getElem_cons hlt]
   rfl
  ·rw [show (x.Kind==1)=false by simpa using h1,cond_false,if_neg h1]
   have:=Q9e (N:=N) hv hI hx (by omega) R N 0 (by simp; omega)
   rw [List.drop_zero] at this
   exact this
 unfold Qby Qb7
 simp only [Qbp,hS,Option.bind_some]
 have hlen:(insE o (ws.drop (wcn n i)) x).length≤100:=by
  unfold insE
  split
  ·rw [List.length_take]; omega
  ·rw [List.length_map]; omega
 rw [Qmw _ _ _ (by simp; omega)]
 rfl
end
theorem Qqk {α:Type} {l:List α} {i:Nat} {x:α} (h:l[i]? = some x):l.set i x=l:=by
 obtain ⟨h1,h2⟩:=List.getElem?_eq_some_iff.1 h
 subst h2
 exact List.set_getElem_self h1
section
variable {N : Nat} {n : GNet} (hN : 1001 ≤ N) (hv : NetV n) (ht : n.Table.length ≤ 1000) {i : Nat} {x : GElement} (hx : n.Elements[i]? = some x) {s : GStream} (hst : StrV s) {D nW : Nat} {ws : List GStream} {y : Int} {O : List (List GStream)} {Ls : List GLost} {Ss : List Int} {d : Int}
 (hlo:i<D) (hLs:Ls[i]? = some ⟨0,0,0,0⟩) (hSs:Ss[i]? = some d) (hd0:0≤d) (hd1:d≤1000000000000000) (hO:∃ r,O[i]? = some r) (hy0:0≤y) (hy1:y≤1000000000)
include hN hst hlo in
theorem Qwz {wts:List Int} (hw:WtsV wts) {l0:GLost} (hL:Ls[i]? = some l0) (hl:i<Ls.length):Qeu N i s wts n.Table n.Elements D D nW ws y O Ls Ss=some (Qgu s wts,Ls.set i ⟨(Qkj s wts).Heat,(Qkj s wts).Silica,(Qkj s wts).Gas,l0.Scale⟩):=by
 have c1:(decide ((0:Int)≤(i:Int))&&decide (i<D))=true:=by simp; omega
 have e:∀ q:GLost,(Ls.set i q)[i]? = some q:=fun q=>List.getElem?_set_self hl
 unfold Qeu
 rw [Zb7 hst hw hN]
 simp only [Option.bind_some,chk,c1,cond_true,Int.toNat_natCast,hL,e,List.set_set]
include hN hv ht hx hst hlo hLs hSs hd0 hd1 hy0 hy1 in
theorem Qzi (hln:i<Ls.length) (h4:x.Kind=4):Qep N i s n.Table n.Elements D D D ws y O Ls Ss=some ((actE n.Table x s).1,y+(actE n.Table x s).2.2,Ls.set i (actE n.Table x s).2.1,Ss.set i (d+(actE n.Table x s).2.1.Scale)):=by
 have hxm:=List.mem_of_getElem? hx
 have hA:=Ql3 (hv.alone x hxm)
 have hlv:=hv.level x hxm
 have hrow:=(Q8e hv.tab (Qeq.2 hlv)).2
 have hk:=Q2q (r:=Qgt n.Table x.Level) hrow hst
 have hK:=Q3d hv.tab hA hlv hst
 have c1:(decide ((0:Int)≤(i:Int))&&decide (i<D))=true:=by simp; omega
 have ef:Q2p n.Table x.Level s=(flG (Qgt n.Table x.Level) s,0):=by
  unfold Q2p Qgt
  rw [hv.tab,Ql6.2 hst,Qeq.2 hlv]; rfl
 have hq1:=hst.s1
 have hm1:=hst.m1
 have cv:=Qo0 hK.v
 have:=cv.s0
 unfold Qep
 simp only [Qck hx,Option.bind_some,Zcr hN ht,ef,chk,c1,cond_true,Int.toNat_natCast,hLs,hSs]
 by_cases h0:x.Amount=0
 ·have ha:actE n.Table x s=([(flG (Qgt n.Table x.Level) s).Steam,(flG (Qgt n.Table x.Level) s).Water],⟨0,0,0,(flG (Qgt n.Table x.Level) s).Scale⟩,(flG (Qgt n.Table x.Level) s).Steam.Mass):=by
   unfold actE
   rw [if_neg (show ¬ x.Kind=3 by omega),if_pos h4,if_pos h0]
  rw [ha] at hK
  obtain ⟨_,_,_,_,cs,_,_,cq,_,cc,t0,t1⟩:=hK
  dsimp only at t0 t1 cs cc cq
  have:=hk.km
  have:=hk.wa.m0
  have:=hk.ks
  have:=hk.wa.s0
  rw [ha,show (x.Amount==0)=true by simpa using h0,cond_true]
  rw [Qbd (x:=y+_) (by omega) (by omega),Qbd (x:=d+_) (by omega) (by omega)]
 ·have ha:actE n.Table x s=([totS [(flG (Qgt n.Table x.Level) s).Steam,(Qgu (flG (Qgt n.Table x.Level) s).Water [1000 - x.Amount,x.Amount]).getD 1 zs],(Qgu (flG (Qgt n.Table x.Level) s).Water [1000 - x.Amount,x.Amount]).getD 0 zs],
   ⟨(Qkj (flG (Qgt n.Table x.Level) s).Water [1000 - x.Amount,x.Amount]).Heat,(Qkj (flG (Qgt n.Table x.Level) s).Water [1000 - x.Amount,x.Amount]).Silica,(Qkj (flG (Qgt n.Table x.Level) s).Water [1000 - x.Amount,x.Amount]).Gas,(flG (Qgt n.Table x.Level) s).Scale⟩,(flG (Qgt n.Table x.Level) s).Steam.Mass):=by
   unfold actE
   rw [if_neg (show ¬ x.Kind=3 by omega),if_pos h4,if_neg h0]
  have hav:=hA.a4 h4
  have hw:=Q70 (a:=x.Amount) (by omega) hav.2
  have:=hk.km
  have:=hk.st.m0
  have:=hk.wa.m0
  have:=hk.ks
  have:=hk.wa.s0
  have:=hk.sc
  rw [ha,show (x.Amount==0)=false by simpa using h0,cond_false,Qbd (x:=y+_) (by omega) (by omega),Qbd (x:=d+_) (by omega) (by omega),Qbd (x:=1000 - x.Amount) (by omega) (by omega)]
  have hsh:=Qwz (N:=N) (n:=n) (nW:=D) (ws:=ws) (y:=y+(flG (Qgt n.Table x.Level) s).Steam.Mass) (O:=O) (Ss:=Ss.set i (d+(flG (Qgt n.Table x.Level) s).Scale)) (Ls:=Ls.set i ⟨0,0,0,(flG (Qgt n.Table x.Level) s).Scale⟩) (l0:=⟨0,0,0,(flG (Qgt n.Table x.Level) s).Scale⟩) hN hk.wa hlo hw (List.getElem?_set_self hln) (by rw [List.length_set]; exact hln)
  obtain ⟨u,v,hp⟩:=Qwu (s:=(flG (Qgt n.Table x.Level) s).Water) (a:=1000 - x.Amount) (b:=x.Amount)
  have hKp:=Qkw hk.wa hw
  rw [hp] at hsh hKp ⊢
  have htot:Qfe N [(flG (Qgt n.Table x.Level) s).Steam,v]=some (totS [(flG (Qgt n.Table x.Level) s).Steam,v]):=by
   rw [Qzf (by simp) hN,Qq2 (fun z hz=>by
    simp at hz
    rcases hz with rfl | rfl
    ·exact hk.st
    ·exact hKp.v _ (by simp)) (by simp)]
  refine (congrArg (fun z=>Option.bind z _) hsh).trans ?_
  simp only [Option.bind_some,show getI [u,v] 1=some v from rfl,show getI [u,v] 0=some u from rfl,List.set_set]
  exact congrArg (fun z=>Option.bind z _) htot
include hN hv ht hx hst hlo hLs hSs hd0 hd1 hO hy0 hy1 in
theorem Zj8 (hln:i<Ls.length) (hD:D=O.length) (hDl:D=Ls.length) (hDs:D=Ss.length) {w:Int} (hw:s.Mass≤w) {ins:List GStream} (hin:Qby N n.Table n.Elements O Ls Ss ws y i=some ins) (htot:Qfe N ins=some s) :
  Qcr N i w n.Table n.Elements D D D ws y O Ls Ss=some (.inl (y+(actE n.Table x s).2.2,O.set i (actE n.Table x s).1,Ls.set i (actE n.Table x s).2.1,Ss.set i (d+(actE n.Table x s).2.1.Scale))):=by
 have hxm:=List.mem_of_getElem? hx
 have hA:=Ql3 (hv.alone x hxm)
 obtain ⟨r,hr⟩:=hO
 have c1:(decide ((0:Int)≤(i:Int))&&decide (i<D))=true:=by simp; omega
 unfold Qcr
 simp only [Qf8,Option.bind_some,chk,Qbp,show decide (D≤O.length)=true by simp; omega,show decide (D≤Ls.length)=true by simp; omega,show decide (D≤Ss.length)=true by simp; omega,cond_true]
 rw [show O.take D=O from by rw [hD,List.take_length],show Ls.take D=Ls from by rw [hDl,List.take_length],show Ss.take D=Ss from by rw [hDs,List.take_length],hin,Option.bind_some,htot,Option.bind_some,decide_eq_false (show ¬ s.Mass>w by omega),cond_false,Qck hx,Option.bind_some]
 simp only [c1,cond_true,Int.toNat_natCast,hr,Option.bind_some,Qe8]
 have hpass:(actE n.Table x s)=([s],⟨0,0,0,0⟩,0)→(y,O.set i [s],Ls,Ss)=(y+(actE n.Table x s).2.2,O.set i (actE n.Table x s).1,Ls.set i (actE n.Table x s).2.1,Ss.set i (d+(actE n.Table x s).2.1.Scale)):=fun e=>by
  rw [e]
  simp only [Int.add_zero]
  rw [Qqk hLs,Qqk hSs]
 by_cases h1:x.Kind=1
 ·rw [h1]
  simp only [show ((1:Int)==0)=false from rfl,show ((1:Int)==1)=true from rfl,cond_true,cond_false]
  rw [hpass (by unfold actE; rw [if_neg (by omega),if_neg (by omega),if_neg (by omega)])]
 by_cases h2:x.Kind=2
 ·rw [h2]
  simp only [show ((2:Int)==0)=false from rfl,show ((2:Int)==1)=false from rfl,show ((2:Int)==2)=true from rfl,cond_true,cond_false]
  rw [hpass (by unfold actE; rw [if_neg (by omega),if_neg (by omega),if_neg (by omega)])]
 by_cases h3:x.Kind=3
 ·rw [h3]
  simp only [show ((3:Int)==0)=false from rfl,show ((3:Int)==1)=false from rfl,show ((3:Int)==2)=false from rfl,show ((3:Int)==3)=true from rfl,cond_true,cond_false]
  have e:actE n.Table x s=([⟨s.Mass,s.Heat - Qpj x s,s.Silica,s.Gas⟩],⟨Qpj x s,0,0,0⟩,0):=by unfold actE; rw [if_pos h3]
  have hc:0≤Qpj x s∧Qpj x s≤s.Heat:=by
   have:=hA.a3 h3
   have:=hst.h0
   unfold Qpj; split<;>omega
  have:=hst.h1
  have:=hst.m1
  unfold Qg3
  simp only [Qck hx,Option.bind_some,chk,c1,cond_true,Int.toNat_natCast,hLs]
  rw [show (if s.Heat<x.Amount then s.Heat else x.Amount)=Qpj x s from rfl,Qbd (x:=s.Heat - Qpj x s) (by omega) (by omega),e]
  simp only [Int.add_zero]
  rw [Qqk hSs]
 by_cases h4:x.Kind=4
 ·have hsep:=Qzi (N:=N) hN hv ht hx hst (ws:=ws) (O:=O) hlo hLs hSs hd0 hd1 hy0 hy1 hln h4
  rw [h4]
  simp only [show ((4:Int)==0)=false from rfl,show ((4:Int)==1)=false from rfl,show ((4:Int)==2)=false from rfl,show ((4:Int)==3)=false from rfl,show ((4:Int)==4)=true from rfl,cond_true,cond_false,hsep,Option.bind_some]
 by_cases h5:x.Kind=5
 ·have hsh:=Qwz (N:=N) (n:=n) (nW:=D) (ws:=ws) (y:=y) (O:=O) (Ss:=Ss) (Ls:=Ls) hN hst hlo (hA.w5 h5) hLs hln
  have e:actE n.Table x s=(Qgu s x.Weights,⟨(Qkj s x.Weights).Heat,(Qkj s x.Weights).Silica,(Qkj s x.Weights).Gas,0⟩,0):=by unfold actE; rw [if_neg h3,if_neg h4,if_pos h5]
  rw [h5]
  unfold Qgs
  simp only [show ((5:Int)==0)=false from rfl,show ((5:Int)==1)=false from rfl,show ((5:Int)==2)=false from rfl,show ((5:Int)==3)=false from rfl,show ((5:Int)==4)=false from rfl,show ((5:Int)==5)=true from rfl,cond_true,cond_false,Qck hx,Option.bind_some,hsh,e,Int.add_zero]
  rw [Qqk hSs]
 have h6:x.Kind=6:=by have:=hA.k; omega
 rw [h6]
 simp only [show ((6:Int)==0)=false from rfl,show ((6:Int)==1)=false from rfl,show ((6:Int)==2)=false from rfl,show ((6:Int)==3)=false from rfl,show ((6:Int)==4)=false from rfl,show ((6:Int)==5)=false from rfl,show ((6:Int)==6)=true from rfl,cond_true,cond_false]
 rw [hpass (by unfold actE; rw [if_neg h3,if_neg h4,if_neg h5])]
end
end Go.Proofs.YtmbhnllcfmiajaaGreat
