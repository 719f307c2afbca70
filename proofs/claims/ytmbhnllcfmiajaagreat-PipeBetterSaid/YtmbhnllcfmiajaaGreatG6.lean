/-
  The texts PBa6, X17, PBb6, X18, PBd6 of the proof, one behind the other. No conditions.
-/
import Derived.Test.YtmbhnllcfmiajaaGreatG5
namespace Go.Proofs.YtmbhnllcfmiajaaGreat
open _root_.Go.Proofs.Tryz
section
open Go.RowKit
theorem getO {α β:Type}(l:List α) (y:Int) (f:α→Option β):(chk (decide (0≤y)&&decide (y.toNat<l.length))<|(l[y.toNat]?).bind f)=(getI l y).bind f:=by
 unfold getI
 by_cases h:0≤y
 ·rw[if_pos h,decide_eq_true h,Bool.true_and]
  by_cases h2:y.toNat<l.length
  ·rw[decide_eq_true h2];rfl
  ·rw[decide_eq_false h2,List.getElem?_eq_none (by omega)];rfl
 ·rw[if_neg h,decide_eq_false h];rfl
theorem Zoq (N:Nat) (n:GNet) (v:List Int) (k:List Qae→Option GNet) (x:List Int):∀(m:Nat) (y:Int) (acc:List Qae),Qdt N n v.length v k x m y acc=Qdf N n v k x m y acc:=by
 intro m
 induction m with
 |zero=>intros;rfl
 |succ m ih=>
  intro y acc
  rw[Qdt,Qdf]
  simp only[ih,getO]
theorem Zop (N:Nat) (n:GNet) (k:List Qae→Option GNet):∀(m:Nat) (y:Int) (acc:List Qae),Qds N n k m y acc=Qde N n k m y acc:=by
 intro m
 induction m with
 |zero=>intros;rfl
 |succ m ih=>
  intro y acc
  rw[Qds,Qde]
  simp only[ih]
theorem Zez (N:Nat) (n:GNet) (v:List Int):Qh1 N n v.length v=Qhg N n v:=by
 unfold Qh1 Qhg
 simp only[Zoq,Zop]
theorem Qt3:∀(q:List (Int×Int)) (acc:List Qae),(putL acc q).map (fun x=>x.Kind)=acc.map fun x=>x.Kind
 |[],_=>rfl
 |(i,v)::q,acc=>by
  rw[putL,Qt3 q]
  cases hg:acc[i.toNat]? with
  |none=>rfl
  |some x=>
   dsimp only
   rw[List.map_set]
   exact Qqk (by rw[List.getElem?_map,hg];rfl)
theorem cntF (k:Int):∀(l:List Qae),(l.filter fun x=>decide (x.Kind=k)).length=((l.map fun x=>x.Kind).filter fun z=>decide (z=k)).length
 |[]=>rfl
 |x::l=>by
  rw[List.map_cons,List.filter_cons,List.filter_cons]
  by_cases h:x.Kind=k
  ·rw[if_pos (by simpa using h),if_pos (by simpa using h),List.length_cons,List.length_cons,cntF k l]
  ·rw[if_neg (by simpa using h),if_neg (by simpa using h),cntF k l]
theorem Qtv (n:GNet) (v:List Int):(setN n v).Elements.length=n.Elements.length:=by unfold setN;rw[Qqm]
theorem Zaj (n:GNet) (v:List Int) (m:Nat):wcn (setN n v) m=wcn n m:=by
 unfold wcn setN
 rw[cntF,cntF,List.map_take,List.map_take,Qt3]
theorem Qtw {n:GNet}(v:List Int) {ws:List Qaa}(h:FedV n ws):FedV (setN n v) ws:=⟨by rw[Qtv,Zaj];exact h.len,h.v,h.m,h.g⟩
theorem Qv9 {n:GNet}(v:List Int) {st:List Int}(h:StV n st):StV (setN n v) st:=⟨by rw[Qtv];exact h.len,h.bd⟩
theorem Zey (n:GNet) (v:List Int) (ws:List Qaa):fedI (setN n v) ws=fedI n ws:=by unfold fedI;rw[Qtv,Zaj]
theorem Zkk (n:GNet) (v:List Int) (st:List Int):stB (setN n v) st=stB n st:=by unfold stB;rw[Qtv]
def fStm (w:Qdn):Int:=w.steam
def stmA (n:GNet) (st:List Int) (l:List (List Qaa)) (v:List Int):Int:=
 bif netB (setN n v) then(match Qlv (setN n v) st l with |none=>-1 |some W=>if (unsL 0 W).1≥0 then -1 else(rngF fStm W).Lo) else -1
abbrev BS:=Int×List Int×Bool
def stp (n:GNet) (st:List Int) (l:List (List Qaa)) (a:BS) (v:List Int):BS:=if stmA n st l v>a.1 then(stmA n st l v,v,true) else a
theorem Zil (n:GNet) (st:List Int) (l:List (List Qaa)):∀(L:List (List Int)) (a:BS),-1≤a.1→-1≤(L.foldl (stp n st l) a).1
 |[],_,h=>h
 |v::L,a,h=>by
  rw[List.foldl_cons]
  refine Zil n st l L _ ?_
  unfold stp
  split
  ·dsimp only;omega
  ·exact h
theorem Q6o (N:Nat) (W:List Qdn) (hl:W.length≤1000) (k:Int×Int→Option Qkp):∀(m i:Nat) (r:Qkp),((W.drop 1).drop i).length<m→Qcj N W k m i r.Lo r.Hi=k ((((W.drop 1).drop i).foldl (fun r x=>wdR r (fStm x)) r).Lo,(((W.drop 1).drop i).foldl (fun r x=>wdR r (fStm x)) r).Hi):=by
 intro m
 induction m with
 |zero=>intro i _ h;cases h
 |succ m ih=>
  intro i r h
  rw[Qcj,show(1:Int).toNat=1 from rfl]
  have hl1:(W.drop 1).length≤1000:=by rw[List.length_drop];omega
  cases hd:(W.drop 1).drop i with
  |nil=>
   have:=Qb2 hd
   rw[decide_eq_false (show ¬((i:Int)<((W.drop 1).length:Int)) by omega),cond_false]
   rfl
  |cons w q=>
   obtain⟨hg,hd',hlt⟩:=Qbp hd
   rw[decide_eq_true (show(i:Int)<((W.drop 1).length:Int) by omega),cond_true,Qb1 hg,Option.bind_some,show Qe2 N w=some (fStm w) from rfl,Option.bind_some,Option.bind_some,w64S (i:=i) (by omega)]
   have:=ih (i+1) (wdR r (fStm w)) (dlt hd hd' h)
   rw[hd'] at this
   exact this
theorem Zet {N:Nat}(hN:1001≤N) {W:List Qdn}(hl:W.length≤1000) (hne:W≠[]):Qe7 N W=some (rngF fStm W):=by
 cases W with
 |nil=>exact absurd rfl hne
 |cons w l=>
  unfold Qe7
  rw[show getI (w::l) 0=some w from rfl,Option.bind_some,show Qe2 N w=some (fStm w) from rfl,Option.bind_some,Option.bind_some,Qe1]
  simp only[chk]
  rw[show(decide ((0:Nat)≤1)&&decide ((1:Int)≤(((w::l).length:Nat):Int))&&decide ((((w::l).length:Nat):Int)≤(((w::l).length:Nat):Int)))=true by simp;omega,cond_true]
  have:=Q6o N (w::l) hl (fun y=>some (⟨y.1,y.2⟩:Qkp)) N 0 ⟨fStm w,fStm w⟩ (by simp at hl ⊢;omega)
  rw[show(w::l).drop 1=l from rfl,List.drop_zero] at this
  exact this
section
variable {n : GNet} (hs : Qib n) {st : List Int} {l : List (List Qaa)} (hl : l.length ≤ 1000) (hg : Qh7 n st l = 0)
include hs hl hg
theorem Zoh {N:Nat}(hN:1001≤N) {v:List Int}(hv:v.length=(ofL 4 0 n.Elements).length) (a:BS) (ha:-1≤a.1):Qin N n.Table n.Elements v.length st l a.1 a.2.1 a.2.2 v=some (stp n st l a v):=by
 obtain⟨hv0,hst,hf,h1⟩:=Qmv hg
 have hs2:=Qon hs v
 have e1:(ofL 4 0 n.Elements).length≤n.Elements.length:=by rw[Qjj];exact List.length_filter_le _ _
 have e0:=hs.e
 unfold Qin stp
 rw[show(⟨n.Table,n.Elements⟩:GNet)=n from rfl,Zez,Zan hs hN hv hv0.len.1,Option.bind_some,Qx1 hs2 hN,Option.bind_some]
 cases hb:netB (setN n v) with
 |false=>rw[Bool.not_false,cond_true,if_neg (by unfold stmA;rw[hb,cond_false];omega)]
 |true=>
  rw[Bool.not_true,cond_false,Zcq hs2 hN (Qm5 hb) (Qv9 v hst) hl (fun c hc=>Qtw v (hf c hc)),Option.bind_some]
  unfold Zg0
  cases hd:Qlv (setN n v) st l with
  |none=>rw[if_neg (by unfold stmA;rw[hb,cond_true,hd];dsimp only;omega)];rfl
  |some W=>
   obtain⟨wl,wo⟩:=Qu2 hs2 (Qm5 hb) (Qv9 v hst) (fun c hc=>Qtw v (hf c hc)) hd
   have hW:W≠[]:=fun h=>by rw[h] at wl;simp at wl;omega
   dsimp only
   rw[Bool.not_true,cond_false,Q94 hN (by omega) fun w hw=>(wo w hw).1,Option.bind_some]
   by_cases hu:(unsL 0 W).1≥0
   ·rw[decide_eq_true hu,cond_true,if_neg (by unfold stmA;rw[hb,cond_true,hd];dsimp only;rw[if_pos hu];omega)]
   ·have e:stmA n st l v=(rngF fStm W).Lo:=by unfold stmA;rw[hb,cond_true,hd];dsimp only;rw[if_neg hu]
    rw[decide_eq_false hu,cond_false,Zet hN (by omega) hW,Option.bind_some]
    by_cases hm:(rngF fStm W).Lo>a.1
    ·rw[decide_eq_true hm,cond_true,if_pos (by rw[e];exact hm),e,decide_eq_true (Nat.le_refl _),List.take_length]
     simp only[chk,cond_true]
     rw[show decide ((0+v.length)*8≤140737488355328)=true by simp;omega,cond_true]
    ·rw[decide_eq_false hm,cond_false,if_neg (by rw[e];exact hm)]
end
def Qkm (T:Nat):Nat→List (List Int)
 |0=>[[]]
 |j+1=>(List.range T).flatMap fun a:Nat=>(Qkm T j).map fun w=>(a:Int)::w
theorem Qu5 (T:Nat):∀(j:Nat),∀w∈Qkm T j,w.length=j
 |0,w,h=>by rw[List.mem_singleton.1 h];rfl
 |j+1,w,h=>by
  rw[Qkm] at h
  obtain⟨a,_,h⟩:=List.mem_flatMap.1 h
  obtain⟨u,hu,rfl⟩:=List.mem_map.1 h
  rw[List.length_cons,Qu5 T j u hu]
theorem Qx4 {p q:List Int}{k:Nat}(h:p.length=k) (x:Int):(p++x::q)[k]? = some x:=by subst h;simp
theorem Zbi {p q:List Int}{k:Nat}(h:p.length=k) (x y:Int):(p++x::q).set k y=p++y::q:=by subst h;simp
section
variable {n : GNet} (hs : Qib n) {st : List Int} {l : List (List Qaa)} (hl : l.length ≤ 1000) (hg : Qh7 n st l = 0)
include hs hl hg
theorem Zg5:∀(j k F:Nat) (p q:List Int) (a:BS),k+j=(ofL 4 0 n.Elements).length→p.length=k→q.length=j→1002+j≤F→-1≤a.1 →
  ∃q',q'.length=j∧Qff F k ((ofL 4 0 n.Elements).length:Int) (ofL 4 0 n.Elements).length n.Table n.Elements st l a.1 a.2.1 a.2.2 (p++q) =
   some ((((Qkm n.Table.length j).map (p ++ ·)).foldl (stp n st l) a).1,(((Qkm n.Table.length j).map (p ++ ·)).foldl (stp n st l) a).2.1,(((Qkm n.Table.length j).map (p ++ ·)).foldl (stp n st l) a).2.2,p++q'):=by
 have e0:=hs.e
 have e1:(ofL 4 0 n.Elements).length≤n.Elements.length:=by rw[Qjj];exact List.length_filter_le _ _
 have t0:=hs.t
 generalize hM:(ofL 4 0 n.Elements).length=M at e1 ⊢
 intro j
 induction j with
 |zero=>
  intro k F p q a hk hp hq hF ha
  obtain⟨F,rfl⟩:∃G,F=G+1:=⟨F-1,by omega⟩
  have hq0:q=[]:=List.eq_nil_of_length_eq_zero hq
  subst hq0
  refine⟨[],rfl,?_⟩
  rw[Qff]
  unfold Qgi
  rw[show((k:Int)==(M:Int))=true by simp;omega,cond_true,List.append_nil]
  have:=Zoh hs hl hg (N:=F) (by omega) (v:=p) (by omega) a ha
  rw[show p.length=M by omega] at this
  rw[this,Option.bind_some,Qkm,List.map_cons,List.map_nil,List.foldl_cons,List.foldl_nil,List.append_nil]
 |succ j ihj=>
  intro k F p q a hk hp hq hF ha
  obtain⟨F,rfl⟩:∃G,F=G+1:=⟨F-1,by omega⟩
  obtain⟨x,q0,rfl⟩:∃x q0,q=x::q0:=by
   cases q with
   |nil=>simp at hq
   |cons x q0=>exact⟨x,q0,rfl⟩
  have hq0:q0.length=j:=by simpa using hq
  have hb:(decide ((0:Int)≤(k:Int))&&decide ((k:Int).toNat<M))=true:=by simp;omega
  have inner:∀(d b:Nat) (q0:List Int) (fuel:Nat) (a:BS),b+d=n.Table.length→d<fuel→q0.length=j→-1≤a.1 →
    ∃q',q'.length=j+1∧Qdj F k (Qff F) (M:Int) M n.Table n.Elements st l fuel a.1 a.2.1 a.2.2 (p++(b:Int)::q0) =
     some ((((List.range' b d).flatMap fun c:Nat=>(Qkm n.Table.length j).map fun w=>p++(c:Int)::w).foldl (stp n st l) a).1,(((List.range' b d).flatMap fun c:Nat=>(Qkm n.Table.length j).map fun w=>p++(c:Int)::w).foldl (stp n st l) a).2.1,
      (((List.range' b d).flatMap fun c:Nat=>(Qkm n.Table.length j).map fun w=>p++(c:Int)::w).foldl (stp n st l) a).2.2,p++q'):=by
   intro d
   induction d with
   |zero=>
    intro b q0 fuel a hbd hfu hq0 ha
    obtain⟨fuel,rfl⟩:∃G,fuel=G+1:=⟨fuel-1,by omega⟩
    refine⟨(b:Int)::q0,by simp[hq0],?_⟩
    rw[Qdj,hb,Int.toNat_natCast,Qx4 hp]
    simp only[chk,cond_true,Option.bind_some]
    rw[decide_eq_false (show ¬(b:Int)<(n.Table.length:Int) by omega),cond_false]
    rfl
   |succ d ih=>
    intro b q0 fuel a hbd hfu hq0 ha
    obtain⟨fuel,rfl⟩:∃G,fuel=G+1:=⟨fuel-1,by omega⟩
    obtain⟨q1,hq1,e⟩:=ihj (k+1) F (p++[(b:Int)]) q0 a (by omega) (by simp[hp]) hq0 (by omega) ha
    have ha1:=Zil n st l ((Qkm n.Table.length j).map ((p++[(b:Int)]) ++ ·)) a ha
    rw[List.append_assoc,List.singleton_append,List.append_assoc,List.singleton_append] at e
    obtain⟨q2,hq2,e2⟩:=ih (b+1) q1 fuel _ (by omega) (by omega) hq1 ha1
    refine⟨q2,hq2,?_⟩
    rw[Qdj,hb,Int.toNat_natCast,Qx4 hp]
    simp only[chk,cond_true,Option.bind_some]
    rw[decide_eq_true (show(b:Int)<(n.Table.length:Int) by omega),cond_true,w64S (i:=k) (by omega),e,Option.bind_some]
    dsimp only
    rw[Qx4 hp,Option.bind_some,Zbi hp,w64S (i:=b) (by omega),e2,List.range'_succ,List.flatMap_cons,List.foldl_append]
    rw[show((Qkm n.Table.length j).map fun w=>p++(b:Int)::w)=(Qkm n.Table.length j).map ((p++[(b:Int)]) ++ ·) from List.map_congr_left fun w _=>by rw[List.append_assoc,List.singleton_append]]
    rfl
  obtain⟨q',hq',e⟩:=inner n.Table.length 0 q0 F a (by omega) (by omega) hq0 ha
  refine⟨q',hq',?_⟩
  rw[Qff]
  unfold Qgi
  rw[show((k:Int)==(M:Int))=false by simp;omega,cond_false,hb,Int.toNat_natCast,Qx4 hp]
  simp only[chk,cond_true,Option.bind_some]
  rw[Zbi hp]
  refine e.trans ?_
  rw[Qkm,List.map_flatMap,List.range_eq_range']
  simp only[List.map_map]
  rfl
end
def bstF (n:GNet) (st:List Int) (l:List (List Qaa)):BS:=(Qkm n.Table.length (ofL 4 0 n.Elements).length).foldl (stp n st l) (-1,[],false)
def Zg6 (n:GNet) (st:List Int) (l:List (List Qaa)):List Int×Int×Int:=
 if Qh7 n st l=0 then(if (ofL 4 0 n.Elements).length>3 then([],0,3) else bif (bstF n st l).2.2 then((bstF n st l).2.1,(bstF n st l).1,0) else([],0,7)) else([],0,Qh7 n st l)
theorem Zl7 {N:Nat}{n:GNet}(hs:Qib n) (hN:1100≤N) {st:List Int}{l:List (List Qaa)}(hl:l.length≤1000) (hc:∀c∈l,c.length≤1000) (hl2:st.length≤1000):Qmq N n st l=some (Zg6 n st l):=by
 have e0:=hs.e
 have e1:(ofL 4 0 n.Elements).length≤n.Elements.length:=by rw[Qjj];exact List.length_filter_le _ _
 unfold Qmq Zg6
 rw[Q40 hs (by omega) hl hc hl2,Option.bind_some]
 by_cases hg:Qh7 n st l=0
 ·rw[if_pos hg,hg,bne_self_eq_false,cond_false,Qz0 hs (by omega) 4,Option.bind_some]
  by_cases h3:(ofL 4 0 n.Elements).length>3
  ·rw[if_pos h3,decide_eq_true (show((ofL 4 0 n.Elements).length:Int)>3 by omega),cond_true]
  ·rw[if_neg h3,decide_eq_false (show ¬((ofL 4 0 n.Elements).length:Int)>3 by omega),cond_false]
   simp only[chk]
   rw[show(decide ((0:Int)≤((ofL 4 0 n.Elements).length:Int))&&decide (8*((ofL 4 0 n.Elements).length:Int)≤281474976710656)&&decide (((ofL 4 0 n.Elements).length:Int)≤9223372036854775807))=true by simp;omega,cond_true]
   obtain⟨q',_,e⟩:=Zg5 hs hl hg (ofL 4 0 n.Elements).length 0 N [] (List.replicate (ofL 4 0 n.Elements).length 0) (-1,[],false) (by omega) rfl (by simp) (by omega) (Int.le_refl _)
   rw[List.nil_append] at e
   rw[Int.toNat_natCast]
   refine(congrArg (fun o=>Option.bind o _) e).trans ?_
   rw[Option.bind_some]
   have hm:(Qkm n.Table.length (ofL 4 0 n.Elements).length).map (([]:List Int) ++ ·)=Qkm n.Table.length (ofL 4 0 n.Elements).length:=by
    simp
   rw[hm]
   unfold bstF
   cases ((Qkm n.Table.length (ofL 4 0 n.Elements).length).foldl (stp n st l) (-1,[],false)).2.2<;>rfl
 ·rw[if_neg hg,show(Qh7 n st l != 0)=true by simpa using hg,cond_true]
end
section
set_option maxRecDepth 100000
set_option maxHeartbeats 4000000
open Go.RowKit
end
section
open Go.RowKit
def stpR (n:GNet) (st:List Int) (l:List (List Qaa)) (a:List Int×Int) (v:List Int):List Int×Int:=if stmA n st l v>a.2 then(v,stmA n st l v) else a
theorem Qxl (n:GNet) (st:List Int) (l:List (List Qaa)):∀(L:List (List Int)) (a:BS),-1≤a.1→a.2.2=decide (0≤a.1)→L.foldl (stpR n st l) (a.2.1,a.1)=((L.foldl (stp n st l) a).2.1,(L.foldl (stp n st l) a).1)∧(L.foldl (stp n st l) a).2.2=decide (0≤(L.foldl (stp n st l) a).1)
 |[],a,_,h=>⟨rfl,h⟩
 |v::L,a,h,h2=>by
  rw[List.foldl_cons,List.foldl_cons]
  unfold stp stpR
  by_cases hv:stmA n st l v>a.1
  ·rw[if_pos hv,if_pos hv]
   exact Qxl n st l L (stmA n st l v,v,true) (by dsimp only;omega) (by dsimp only;rw[decide_eq_true (show 0≤stmA n st l v by omega)])
  ·rw[if_neg hv,if_neg hv]
   exact Qxl n st l L a h h2
theorem Q0m (n:GNet):cntK n 4=(ofL 4 0 n.Elements).length:=by rw[Qjj];rfl
theorem Q90 {N:Nat}{n:GNet}(hs:Qib n) (hN:1001≤N) (k:Int→Option Bool):∀(d i m:Nat),i+d=(ofL 4 0 n.Elements).length→d<m→n.Table.length ^ i≤3750→∃z:Int,Qei N n k m ((n.Table.length ^ i:Nat):Int) i=k z∧(z≤150→z=((n.Table.length ^ (ofL 4 0 n.Elements).length:Nat):Int)):=by
 have e0:=hs.e
 have t0:=hs.t
 have e1:(ofL 4 0 n.Elements).length≤n.Elements.length:=by rw[Qjj];exact List.length_filter_le _ _
 intro d
 induction d with
 |zero=>
  intro i m hid hm hb
  obtain⟨m,rfl⟩:∃G,m=G+1:=⟨m-1,by omega⟩
  rw[Qei,Qe1,Qs4 4 (by omega) hN,Option.bind_some,Q0m,decide_eq_false (show ¬((i:Int)<((ofL 4 0 n.Elements).length:Int)) by omega),cond_false]
  exact⟨_,rfl,fun _=>by rw[show i=(ofL 4 0 n.Elements).length by omega]⟩
 |succ d ih=>
  intro i m hid hm hb
  obtain⟨m,rfl⟩:∃G,m=G+1:=⟨m-1,by omega⟩
  have e:((n.Table.length ^ i:Nat):Int)*(n.Table.length:Int)=((n.Table.length ^ (i+1):Nat):Int):=by rw[Nat.pow_succ];push_cast;rfl
  rw[Qei,Qe1,Qs4 4 (by omega) hN,Option.bind_some,Q0m,decide_eq_true (show(i:Int)<((ofL 4 0 n.Elements).length:Int) by omega),cond_true]
  by_cases h:n.Table.length ^ i≤150
  ·have hb2:n.Table.length ^ (i+1)≤3750:=by
    rw[Nat.pow_succ]
    have:=Nat.mul_le_mul h t0
    omega
   rw[decide_eq_true (show((n.Table.length ^ i:Nat):Int)≤150 by omega),cond_true,e,Qcg (x:=((n.Table.length ^ (i+1):Nat):Int)) (by omega) (by omega),Option.bind_some,w64S (i:=i) (by omega)]
   exact ih (i+1) m (by omega) (by omega) hb2
  ·rw[decide_eq_false (show ¬((n.Table.length ^ i:Nat):Int)≤150 by omega),cond_false]
   exact⟨_,rfl,fun h2=>absurd h2 (by omega)⟩
theorem Zj6 {N:Nat}{n:GNet}(hs:Qib n) (hN:1001≤N):Qjw N n=some true∨(Qjw N n=some false∧n.Table.length ^ (ofL 4 0 n.Elements).length≤150):=by
 have e0:=hs.e
 have e1:(ofL 4 0 n.Elements).length≤n.Elements.length:=by rw[Qjj];exact List.length_filter_le _ _
 unfold Qjw
 rw[Qe1]
 obtain⟨z,e,hz⟩:=Q90 hs hN (fun y1=>some (decide (y1>150))) (ofL 4 0 n.Elements).length 0 N (by omega) (by omega) (by simp)
 rw[show((n.Table.length ^ 0:Nat):Int)=1 from rfl] at e
 by_cases h:z>150
 ·exact .inl (e.trans (by rw[decide_eq_true h]))
 ·exact .inr ⟨e.trans (by rw[decide_eq_false h]),by have:=hz (by omega);omega⟩
theorem Zae (n:GNet) (st:List Int) (l:List (List Qaa)):∀(L:List (List Int)) (a:BS),(L.foldl (stp n st l) a).2.1=a.2.1∨(L.foldl (stp n st l) a).2.1∈L
 |[],_=>.inl rfl
 |v::L,a=>by
  rw[List.foldl_cons]
  rcases Zae n st l L (stp n st l a v) with h |h
  ·unfold stp at h ⊢
   by_cases hv:stmA n st l v>a.1
   ·rw[if_pos hv] at h ⊢;exact .inr (by rw[h];exact List.mem_cons_self)
   ·rw[if_neg hv] at h ⊢;exact .inl h
  ·exact .inr (List.mem_cons_of_mem _ h)
theorem Zl5 (n:GNet) (st:List Int) (l:List (List Qaa)):(bstF n st l).2.1.length≤(ofL 4 0 n.Elements).length:=by
 unfold bstF
 rcases Zae n st l (Qkm n.Table.length (ofL 4 0 n.Elements).length) (-1,[],false) with h |h
 ·rw[h];simp
 ·rw[Qu5 _ _ _ h];exact Nat.le_refl _
end
section
set_option maxRecDepth 100000
set_option maxHeartbeats 4000000
open Go.RowKit
def Qf5 (N:Nat) (p0:GNet) (p1:List Int) (p2:List (List Qaa)) (p3:List Int):Option Bool:=
  (Qi1 N p0).bind fun x2=>
  (Qgz N p3).bind fun x4=>
  (Qml N x2 x4).bind fun x6=>
  bif (x6.2 != 0) then
   some false
  else
   (Qgz N p1).bind fun x9=>
   (Qi2 N p2).bind fun x11=>
   (Qiz N (⟨x6.1.Table,x6.1.Elements⟩:GNet) x9 x11).bind fun x13=>
   bif (x13.2.2==0) then
    some (x13.1==(-1))
   else
    some false
theorem Qjx (N:Nat) (p0:GNet) (p1:List Int) (p2:List (List Qaa)) (p3:List Int) (r:Bool) (h:Qf5 N p0 p1 p2 p3=some r):Spec prog 53 [(.agg (Qf6 p0)),(.dat 1 (p1.map Qad)),(.dat 1 (p2.map Qak)),(.dat 1 (p3.map Qad))] [] (B r) []:=by
  refine Qan func53 rfl 0 (nle rfl) (fun X φ0 w0 hφ0 hd0=>?_)
  unfold Qf5 at h
  refine wxz ?_
  obtain⟨x2,hf1,h⟩:=bno h
  obtain⟨x4,hf3,h⟩:=bno h
  obtain⟨x6,hf5,h⟩:=bno h
  refine wx tbk [(1,rp _ _),(3,rp _ _),(4,rp _ _)] ⟨apv Q2k (Qm8 N p0 _ hf1) (nlc (NLt.agg _ (nlc (nld Qag _) (nlc (nld Qab _) nl0))) nl0) (NLt.agg _ (nlc (nld Qag _) (nlc (nld Qab _) nl0))),apv Quz (Qio N p3 _ hf3) (nlc (nld Qaf _) nl0) (nld Qaf _),apv Zch (Qr9 N x2 x4 _ hf5) (nlc (NLt.agg _ (nlc (nld Qag _) (nlc (nld Qab _) nl0))) (nlc (nld Qaf _) nl0)) (NLt.tup _ (nlc (NLt.agg _ (nlc (nld Qag _) (nlc (nld Qab _) nl0))) (nlc nll nl0))),tv⟩<|wsq<|wxz ?_
  refine bfe h (fun hc7 h=>?_) fun hc7 h=>?_
  ·exact wft hc7<|wxz<|Qaj<|Qal<|frb h
  ·refine wfn hc7<|Qap<|thn ?_
   obtain⟨x9,hf8,h⟩:=bno h
   obtain⟨x11,hf10,h⟩:=bno h
   obtain⟨x13,hf12,h⟩:=bno h
   refine wxd tbk [(2,rp _ _),(4,rp _ _),(5,rp _ _)] ⟨apv Quz (Qio N p1 _ hf8) (nlc (nld Qaf _) nl0) (nld Qaf _),apv Zcg (Qob N p2 _ hf10) (nlc (nld Qai _) nl0) (nld Qai _),apv Zlu (Qt8 N (⟨x6.1.Table,x6.1.Elements⟩:GNet) x9 x11 _ hf12) (nlc (NLt.agg _ (nlc (nld Qag _) (nlc (nld Qab _) nl0))) (nlc (nld Qaf _) (nlc (nld Qai _) nl0))) (NLt.tup _ (nlcc (nlc nll nl0))),tv⟩ ?_
   refine bfe h (fun hb14 h=>?_) fun hb14 h=>?_
   ·refine wx tbk [(2,rp [(.tmp 35,(B ((x13.2.2==0))))] (B true))] ⟨asb hb14 (amv rfl),tv⟩<|Qaj ?_
    obtain rfl:=osi h
    exact fend ⟨[(B ((x13.1==(-1))))],⟨rot,tv⟩,rfl⟩ nll
   ·exact wx tbk [(2,rp [(.tmp 35,(B ((x13.2.2==0))))] (B false))] ⟨asb hb14 (amv rfl),tv⟩<|Qaj<|frb h
def Qdm (N:Nat) (p0:GNet) (x26:(Qhm×Int×Int)) (k29:Int→Option Int):Nat→Int→Int→Option Int
  |0,_,_=>none
  |n36+1,y32,y33=>
    bif (decide (y33<(p0.Elements.length:Int))) then
     (getI p0.Elements y33).bind fun x38=>
     bif (x38.Kind==4) then
      (getI x26.1.Out y33).bind fun x43=>
      bif ((x43.length:Int)==2) then
       (getI x43 0).bind fun x48=>
       Qdm N p0 x26 k29 n36 (w64 (y32+x48.Mass)) (w64 (y33+1))
      else
       Qdm N p0 x26 k29 n36 y32 (w64 (y33+1))
     else
      Qdm N p0 x26 k29 n36 y32 (w64 (y33+1))
    else
     k29 (y32)
def Qey (N:Nat) (p0:GNet) (p1:List Int) (p2:List (List Qaa)) (x6:(GNet×Int)) (k8:Int→Option Int):Nat→Int→Int→Option Int
  |0,_,_=>none
  |n13+1,y9,y10=>
    Qbl (fun _=>
      Qbl (fun y15=>
        Qey N p0 p1 p2 x6 k8 n13 y15 (w64 (y10+1))) fun k16:Int→Option Int=>
      (Qgz N p1).bind fun x18=>
      (getI p2 y10).bind fun x19=>
      (Qhu N x19).bind fun x24=>
      (Qm4 N (⟨x6.1.Table,x6.1.Elements⟩:GNet) x18 x24).bind fun x26=>
      Qbl (fun _=>
        Qbl (fun y28=>
          bif (y10==0) then
           k16 (y28)
          else
           bif (decide (y28<y9)) then
            k16 (y28)
           else
            k16 y9) fun k29:Int→Option Int=>
        Qdm N p0 x26 k29 N 0 0) fun k27:Unit→Option Int=>
      bif (x26.2.2 != 0) then
       some (-1)
      else
       bif ((x26.1.Out.length:Int) != (p0.Elements.length:Int)) then
        some (-1)
       else
        k27 ()) fun k14:Unit→Option Int=>
    bif (decide (y10<(p2.length:Int))) then
     bif (x6.2==0) then
      k14 ()
     else
      k8 (y9)
    else
     k8 (y9)
def Qh6 (N:Nat) (p0:GNet) (p1:List Int) (p2:List (List Qaa)) (p3:List Int):Option Int:=
  (Qi1 N p0).bind fun x2=>
  (Qgz N p3).bind fun x4=>
  (Qml N x2 x4).bind fun x6=>
  Qbl (fun y7=>
    some y7) fun k8:Int→Option Int=>
  Qey N p0 p1 p2 x6 k8 N (-1) 0
def Zh6 (p0:GNet):AV:=.dat 7 (p0.Elements.map Qac)
def Znp (x6:(GNet×Int)):AV:=.dat 5 (x6.1.Table.map Qaq)
def Zno (x6:(GNet×Int)):AV:=.dat 7 (x6.1.Elements.map Qac)
def Qg2 (p2:List (List Qaa)):AV:=.dat 1 (p2.map Qak)
def Qit (p0:GNet):Slot:=.own 2 [[(.dat 5 (p0.Table.map Qaq)),(Zh6 p0)]]
def Qg3 (x6:(GNet×Int)):Slot:=.own 2 [[(Znp x6),(Zno x6)]]
def Q1d (x26:(Qhm×Int×Int)):AV:=.dat 1 (x26.1.Out.map Qak)
def Qnr (x26:(Qhm×Int×Int)):Slot:=.own 3 [[(Q1d x26),(.dat 4 (x26.1.Lost.map Qa0)),(.dat 1 (x26.1.State.map Qad))]]
theorem Qoa (N:Nat) (p0:GNet) (p1:List Int) (p2:List (List Qaa)) (p3:List Int) (r:Int) (h:Qh6 N p0 p1 p2 p3=some r):Spec prog 54 [(.agg (Qf6 p0)),(.dat 1 (p1.map Qad)),(.dat 1 (p2.map Qak)),(.dat 1 (p3.map Qad))] [] (I r) []:=by
  refine Qan func54 rfl 0 (nle rfl) (fun X φ0 w0 hφ0 hd0=>?_)
  unfold Qh6 at h
  refine wxz ?_
  obtain⟨x2,hf1,h⟩:=bno h
  obtain⟨x4,hf3,h⟩:=bno h
  obtain⟨x6,hf5,h⟩:=bno h
  refine wx tbk [(1,rp _ _),(3,rp _ _),(4,rp _ _)] ⟨apv Q2k (Qm8 N p0 _ hf1) (nlc (NLt.agg _ (nlc (nld Qag _) (nlc (nld Qab _) nl0))) nl0) (NLt.agg _ (nlc (nld Qag _) (nlc (nld Qab _) nl0))),apv Quz (Qio N p3 _ hf3) (nlc (nld Qaf _) nl0) (nld Qaf _),apv Zch (Qr9 N x2 x4 _ hf5) (nlc (NLt.agg _ (nlc (nld Qag _) (nlc (nld Qab _) nl0))) (nlc (nld Qaf _) nl0)) (NLt.tup _ (nlc (NLt.agg _ (nlc (nld Qag _) (nlc (nld Qab _) nl0))) (nlc nll nl0))),tv⟩<|wxz ?_
  obtain⟨k8,hk_k8,h⟩:=jko h
  refine wjn (τ:=Int) (fun t=>k8 t=some r) (fun y7=>⟨mk 102 [(11,I y7)],[]⟩) (fun y7 h=>?_) ?_
  ·subst hk_k8
   refine wxz<|Qaj ?_
   obtain rfl:=osi h
   exact fend ⟨[I y7],⟨rot,tv⟩,rfl⟩ nll
  ·skip
   refine wxz<|Qar ?_
   refine wmr (mto (n:=102) (l':=[(1,(.dat 1 (p1.map Qad))),(2,(Qg2 p2)),(4,.ref 0 2 0 0),(9,.ref 1 2 0 0),(10,I x6.2),(11,(I ((-1)))),(12,I 0)]) (own':=[(Qit p0),(Qg3 x6)]) [(1,(.dat 1 (p1.map Qad))),(2,(Qg2 p2)),(4,.ref 0 2 0 0),(9,.ref 1 2 0 0),(10,I x6.2),(11,(I ((-1)))),(12,I 0)] [0,1] [(Qit p0),(Qg3 x6)] hφ0 (pc (rnd Qaf) (pc (rnd Qai) (prr (prr (pw (pw (pw pn))))))) (qb (lc (rnd Qag) (lc (rnd Qab) ln)) (qb (lc (rnd Qag) (lc (rnd Qab) ln)) qn))) ?_
   refine Qbt (τ:=Int×Int) (fun n t=>Qey N p0 p1 p2 x6 k8 n t.1 t.2=some r) (fun ⟨y9,y10⟩=>⟨mk 102 [(1,(.dat 1 (p1.map Qad))),(2,(Qg2 p2)),(4,.ref 0 2 0 0),(9,.ref 1 2 0 0),(10,I x6.2),(11,I y9),(12,I y10)],[(Qit p0),(Qg3 x6)]⟩) (fun t h=>by rw[Qey] at h;cases h) (fun n13 ih t h=>?_) N ((-1),0) h
   obtain⟨y9,y10⟩:=t
   rw[Qey] at h
   skip
   obtain⟨k14,hk_k14,h⟩:=jko h
   refine wjn (τ:=Unit) (fun t=>k14 t=some r) (fun _=>⟨mk 102 [(1,(.dat 1 (p1.map Qad))),(2,(Qg2 p2)),(4,.ref 0 2 0 0),(9,.ref 1 2 0 0),(10,I x6.2),(11,I y9),(12,I y10)],[(Qit p0),(Qg3 x6)]⟩) (fun t h=>?_) ?_
   ·subst hk_k14
    obtain⟨k16,hk_k16,h⟩:=jko h
    refine wjn (τ:=Int) (fun t=>k16 t=some r) (fun y15=>⟨mk 102 [(1,(.dat 1 (p1.map Qad))),(2,(Qg2 p2)),(4,.ref 0 2 0 0),(9,.ref 1 2 0 0),(10,I x6.2),(11,I y15),(12,I y10)],[(Qit p0),(Qg3 x6)]⟩) (fun y15 h=>?_) ?_
    ·subst hk_k16
     exact wxz1<|thn<|arm (mto (n:=102) [(1,(.dat 1 (p1.map Qad))),(2,(Qg2 p2)),(4,.ref 0 2 0 0),(9,.ref 1 2 0 0),(10,I x6.2),(11,I y15),(12,(I (w64 (y10+1))))] [0,1] [(Qit p0),(Qg3 x6)] hφ0 (pc (rnd Qaf) (pc (rnd Qai) (prr (prr (pw (pw (pw pn))))))) (qb (lc (rnd Qag) (lc (rnd Qab) ln)) (qb (lc (rnd Qag) (lc (rnd Qab) ln)) qn))) (ih (y15,w64 (y10+1)) h)
    ·skip
     refine Qar ?_
     obtain⟨x18,hf17,h⟩:=bno h
     obtain⟨x19,hg20,h⟩:=bno h
     obtain⟨hi21,hj22⟩:=gsm hg20
     obtain⟨x24,hf23,h⟩:=bno h
     obtain⟨x26,hf25,h⟩:=bno h
     refine wxd tbk [(2,rp _ _),(5,rp _ _),(7,rp _ _),(8,rp _ _)] ⟨apv Quz (Qio N p1 _ hf17) (nlc (nld Qaf _) nl0) (nld Qaf _),aiq underlying49 ti28 Qak hi21 hj22,apv Zci (Qmu N x19 _ hf23) (nlc (nld Qam _) nl0) (nld Qam _),apv Zcj (Qt9 N (⟨x6.1.Table,x6.1.Elements⟩:GNet) x18 x24 _ hf25) (nlc (NLt.agg _ (nlc (nld Qag _) (nlc (nld Qab _) nl0))) (nlc (nld Qaf _) (nlc (nld Qam _) nl0))) (NLt.tup _ (nlc (NLt.agg _ (nlc (nld Qai _) (nlc (nld Qa3 _) (nlc (nld Qaf _) nl0)))) (nlcc nl0))),tv⟩ ?_
     obtain⟨k27,hk_k27,h⟩:=jko h
     refine wjn (τ:=Unit) (fun t=>k27 t=some r) (fun _=>⟨mk 102 [(1,(.dat 1 (p1.map Qad))),(2,(Qg2 p2)),(4,.ref 0 2 0 0),(9,.ref 1 2 0 0),(10,I x6.2),(11,I y9),(12,I y10),(13,.ref 2 3 0 0)],[(Qit p0),(Qg3 x6),(Qnr x26)]⟩) (fun t h=>?_) ?_
     ·subst hk_k27
      refine wxz ?_
      obtain⟨k29,hk_k29,h⟩:=jko h
      refine wjn (τ:=Int) (fun t=>k29 t=some r) (fun y28=>⟨mk 102 [(1,(.dat 1 (p1.map Qad))),(2,(Qg2 p2)),(4,.ref 0 2 0 0),(9,.ref 1 2 0 0),(10,I x6.2),(11,I y9),(12,I y10),(16,I y28)],[(Qit p0),(Qg3 x6)]⟩) (fun y28 h=>?_) ?_
      ·subst hk_k29
       refine bfe h (fun hb30 h=>?_) fun hb30 h=>?_
       ·exact wx tbk [(2,rp [(.tmp 94,(B ((y10==0))))] (B true))] ⟨asb hb30 (amv rfl),tv⟩<|wtr<|wxz1<|bln<|thn<|⟨(y28),h,(mto (n:=102) [(1,(.dat 1 (p1.map Qad))),(2,(Qg2 p2)),(4,.ref 0 2 0 0),(9,.ref 1 2 0 0),(10,I x6.2),(11,I y28),(12,I y10)] [0,1] [(Qit p0),(Qg3 x6)] hφ0 (pc (rnd Qaf) (pc (rnd Qai) (prr (prr (pw (pw (pw pn))))))) (qb (lc (rnd Qag) (lc (rnd Qab) ln)) (qb (lc (rnd Qag) (lc (rnd Qab) ln)) qn)))⟩
       ·refine wx tbk [(2,rp [(.tmp 94,(B ((y10==0))))] (B false))] ⟨asb hb30 (amv rfl),tv⟩ ?_
        refine bfe h (fun hc31 h=>?_) fun hc31 h=>?_
        ·exact wft hc31<|wxz1<|bln<|thn<|⟨(y28),h,(mto (n:=102) [(1,(.dat 1 (p1.map Qad))),(2,(Qg2 p2)),(4,.ref 0 2 0 0),(9,.ref 1 2 0 0),(10,I x6.2),(11,I y28),(12,I y10)] [0,1] [(Qit p0),(Qg3 x6)] hφ0 (pc (rnd Qaf) (pc (rnd Qai) (prr (prr (pw (pw (pw pn))))))) (qb (lc (rnd Qag) (lc (rnd Qab) ln)) (qb (lc (rnd Qag) (lc (rnd Qab) ln)) qn)))⟩
        ·exact wfn hc31<|Qap<|bln<|thn<|⟨(y9),h,(mto (n:=102) [(1,(.dat 1 (p1.map Qad))),(2,(Qg2 p2)),(4,.ref 0 2 0 0),(9,.ref 1 2 0 0),(10,I x6.2),(11,I y9),(12,I y10)] [0,1] [(Qit p0),(Qg3 x6)] hφ0 (pc (rnd Qaf) (pc (rnd Qai) (prr (prr (pw (pw (pw pn))))))) (qb (lc (rnd Qag) (lc (rnd Qab) ln)) (qb (lc (rnd Qag) (lc (rnd Qab) ln)) qn)))⟩
      ·skip
       refine wxz<|Qar ?_
       refine wmr (mto (n:=102) (l':=[(1,(.dat 1 (p1.map Qad))),(2,(Qg2 p2)),(4,.ref 0 2 0 0),(9,.ref 1 2 0 0),(10,I x6.2),(11,I y9),(12,I y10),(13,.ref 2 3 0 0),(16,I 0),(17,I 0)]) (own':=[(Qit p0),(Qg3 x6),(Qnr x26)]) [(1,(.dat 1 (p1.map Qad))),(2,(Qg2 p2)),(4,.ref 0 2 0 0),(9,.ref 1 2 0 0),(10,I x6.2),(11,I y9),(12,I y10),(13,.ref 2 3 0 0),(16,I 0),(17,I 0)] [0,1,2] [(Qit p0),(Qg3 x6),(Qnr x26)] hφ0 (pc (rnd Qaf) (pc (rnd Qai) (prr (prr (pw (pw (pw (prr (pw (pw pn)))))))))) (qb (lc (rnd Qag) (lc (rnd Qab) ln)) (qb (lc (rnd Qag) (lc (rnd Qab) ln)) (qb (lc (rnd Qai) (lc (rnd Qa3) (lc (rnd Qaf) ln))) qn)))) ?_
       refine Qbt (τ:=Int×Int) (fun n t=>Qdm N p0 x26 k29 n t.1 t.2=some r) (fun ⟨y32,y33⟩=>⟨mk 102 [(1,(.dat 1 (p1.map Qad))),(2,(Qg2 p2)),(4,.ref 0 2 0 0),(9,.ref 1 2 0 0),(10,I x6.2),(11,I y9),(12,I y10),(13,.ref 2 3 0 0),(16,I y32),(17,I y33)],[(Qit p0),(Qg3 x6),(Qnr x26)]⟩) (fun t h=>by rw[Qdm] at h;cases h) (fun n36 ih t h=>?_) N (0,0) h
       obtain⟨y32,y33⟩:=t
       rw[Qdm] at h
       skip
       refine wsq<|wx tbk [(3,rp _ _)] ⟨alq 7 Qac p0.Elements underlying24,tv⟩ ?_
       refine bfe h (fun hc37 h=>?_) fun hc37 h=>?_
       ·refine wft hc37<|Qap<|thn<|wsq<|Qar ?_
        obtain⟨x38,hg39,h⟩:=bno h
        obtain⟨hi40,hj41⟩:=gsm hg39
        refine bfe h (fun hb42 h=>?_) fun hb42 h=>?_
        ·obtain⟨x43,hg44,h⟩:=bno h
         obtain⟨hi45,hj46⟩:=gsm hg44
         refine wx tbk [(3,rp _ _),(7,rp [(.tmp 73,(B ((x38.Kind==4))))] (B true)),(11,rp [(.tmp 74,B true),(.tmp 76,(Q1d x26)),(.tmp 77,I y33)] (.dptr (Qak x43) 0)),(13,rp [(.tmp 74,B true),(.tmp 79,(.dat 4 (x43.map Qah)))] (I ((x43.length:Int))))] ⟨aiq underlying24 ti59 Qac hi40 hj41,asb hb42 (amv rfl),ag_ (aiq underlying31 ti45 Qak hi45 hj46),ag_ (alq 4 Qah x43 underlying45),tv⟩ ?_
         refine bfe h (fun hc47 h=>?_) fun hc47 h=>?_
         ·refine wft hc47 ?_
          obtain⟨x48,hg49,h⟩:=bno h
          obtain⟨hi50,hj51⟩:=gsm hg49
          exact wx1 tbk [(4,rp _ _),(6,rp _ _)] ⟨aiq underlying31 ti45 Qak hi45 hj46,aiq underlying45 ti63 Qah hi50 hj51,tv⟩<|bln<|thn<|wxz1<|thn<|arm (mto (n:=102) [(1,(.dat 1 (p1.map Qad))),(2,(Qg2 p2)),(4,.ref 0 2 0 0),(9,.ref 1 2 0 0),(10,I x6.2),(11,I y9),(12,I y10),(13,.ref 2 3 0 0),(16,(I (w64 (y32+x48.Mass)))),(17,(I (w64 (y33+1))))] [0,1,2] [(Qit p0),(Qg3 x6),(Qnr x26)] hφ0 (pc (rnd Qaf) (pc (rnd Qai) (prr (prr (pw (pw (pw (prr (pw (pw pn)))))))))) (qb (lc (rnd Qag) (lc (rnd Qab) ln)) (qb (lc (rnd Qag) (lc (rnd Qab) ln)) (qb (lc (rnd Qai) (lc (rnd Qa3) (lc (rnd Qaf) ln))) qn)))) (ih (w64 (y32+x48.Mass),w64 (y33+1)) h)
         ·exact wfn hc47<|Qap<|bln<|thn<|wxz1<|thn<|arm (mto (n:=102) [(1,(.dat 1 (p1.map Qad))),(2,(Qg2 p2)),(4,.ref 0 2 0 0),(9,.ref 1 2 0 0),(10,I x6.2),(11,I y9),(12,I y10),(13,.ref 2 3 0 0),(16,I y32),(17,(I (w64 (y33+1))))] [0,1,2] [(Qit p0),(Qg3 x6),(Qnr x26)] hφ0 (pc (rnd Qaf) (pc (rnd Qai) (prr (prr (pw (pw (pw (prr (pw (pw pn)))))))))) (qb (lc (rnd Qag) (lc (rnd Qab) ln)) (qb (lc (rnd Qag) (lc (rnd Qab) ln)) (qb (lc (rnd Qai) (lc (rnd Qa3) (lc (rnd Qaf) ln))) qn)))) (ih (y32,w64 (y33+1)) h)
        ·exact wx tbk [(3,rp _ _),(7,rp [(.tmp 73,(B ((x38.Kind==4))))] (B false))] ⟨aiq underlying24 ti59 Qac hi40 hj41,asb hb42 (amv rfl),tv⟩<|wfa<|Qap<|bln<|thn<|wxz1<|thn<|arm (mto (n:=102) [(1,(.dat 1 (p1.map Qad))),(2,(Qg2 p2)),(4,.ref 0 2 0 0),(9,.ref 1 2 0 0),(10,I x6.2),(11,I y9),(12,I y10),(13,.ref 2 3 0 0),(16,I y32),(17,(I (w64 (y33+1))))] [0,1,2] [(Qit p0),(Qg3 x6),(Qnr x26)] hφ0 (pc (rnd Qaf) (pc (rnd Qai) (prr (prr (pw (pw (pw (prr (pw (pw pn)))))))))) (qb (lc (rnd Qag) (lc (rnd Qab) ln)) (qb (lc (rnd Qag) (lc (rnd Qab) ln)) (qb (lc (rnd Qai) (lc (rnd Qa3) (lc (rnd Qaf) ln))) qn)))) (ih (y32,w64 (y33+1)) h)
       ·exact wfn hc37<|Qbf<|Qaw<|Qaw<|Qbe rfl<|thn<|⟨(y32),h,(mto (n:=102) [(1,(.dat 1 (p1.map Qad))),(2,(Qg2 p2)),(4,.ref 0 2 0 0),(9,.ref 1 2 0 0),(10,I x6.2),(11,I y9),(12,I y10),(16,I y32)] [0,1] [(Qit p0),(Qg3 x6)] hφ0 (pc (rnd Qaf) (pc (rnd Qai) (prr (prr (pw (pw (pw (pw pn)))))))) (qb (lc (rnd Qag) (lc (rnd Qab) ln)) (qb (lc (rnd Qag) (lc (rnd Qab) ln)) qn)))⟩
     ·skip
      refine bfe h (fun hb52 h=>?_) fun hb52 h=>?_
      ·refine wx tbk [(2,rp [(.tmp 50,(B ((x26.2.2 != 0))))] (B true))] ⟨asb hb52 (amv rfl),tv⟩<|wtr<|wxz<|Qaj<|Qal<|Qat<|Qal<|Qal<|Qat<|Qal ?_
       obtain rfl:=osi h
       exact fend ⟨[(I ((-1)))],⟨rot,tv⟩,rfl⟩ nll
      ·refine wx tbk [(2,rp [(.tmp 50,(B ((x26.2.2 != 0))))] (B false)),(5,rp [(.tmp 51,B false),(.tmp 53,(Q1d x26))] (I ((x26.1.Out.length:Int)))),(8,rp [(.tmp 51,B false),(.tmp 56,(Zh6 p0))] (I ((p0.Elements.length:Int))))] ⟨asb hb52 (amv rfl),ag_ (alq 1 Qak x26.1.Out underlying31),ag_ (alq 7 Qac p0.Elements underlying24),tv⟩ ?_
       refine bfe h (fun hc53 h=>?_) fun hc53 h=>?_
       ·refine wft hc53<|wxz<|Qaj<|Qal<|Qat<|Qal<|Qal<|Qat<|Qal ?_
        obtain rfl:=osi h
        exact fend ⟨[(I ((-1)))],⟨rot,tv⟩,rfl⟩ nll
       ·exact wfn hc53<|Qap<|thn<|⟨(),h,(mto (n:=102) [(1,(.dat 1 (p1.map Qad))),(2,(Qg2 p2)),(4,.ref 0 2 0 0),(9,.ref 1 2 0 0),(10,I x6.2),(11,I y9),(12,I y10),(13,.ref 2 3 0 0)] [0,1,2] [(Qit p0),(Qg3 x6),(Qnr x26)] hφ0 (pc (rnd Qaf) (pc (rnd Qai) (prr (prr (pw (pw (pw (prr pn)))))))) (qb (lc (rnd Qag) (lc (rnd Qab) ln)) (qb (lc (rnd Qag) (lc (rnd Qab) ln)) (qb (lc (rnd Qai) (lc (rnd Qa3) (lc (rnd Qaf) ln))) qn))))⟩
   ·skip
    refine bfe h (fun hb54 h=>?_) fun hb54 h=>?_
    ·refine wx tbk [(2,rp _ _),(4,rp [(.tmp 29,(B ((decide (y10<(p2.length:Int))))))] (B true))] ⟨alq 1 Qak p2 underlying49,asb hb54 (amv rfl),tv⟩ ?_
     refine bfe h (fun hc55 h=>?_) fun hc55 h=>?_
     ·exact wft hc55<|Qap<|thn<|⟨(),h,(mto (n:=102) [(1,(.dat 1 (p1.map Qad))),(2,(Qg2 p2)),(4,.ref 0 2 0 0),(9,.ref 1 2 0 0),(10,I x6.2),(11,I y9),(12,I y10)] [0,1] [(Qit p0),(Qg3 x6)] hφ0 (pc (rnd Qaf) (pc (rnd Qai) (prr (prr (pw (pw (pw pn))))))) (qb (lc (rnd Qag) (lc (rnd Qab) ln)) (qb (lc (rnd Qag) (lc (rnd Qab) ln)) qn)))⟩
     ·exact wfn hc55<|Qbf<|Qaw<|Qaw<|Qbe rfl<|thn<|⟨(y9),h,(mto (n:=102) [(11,I y9)] [] [] hφ0 (pw pn) qn)⟩
    ·exact wx tbk [(2,rp _ _),(4,rp [(.tmp 29,(B ((decide (y10<(p2.length:Int))))))] (B false))] ⟨alq 1 Qak p2 underlying49,asb hb54 (amv rfl),tv⟩<|wfa<|Qbf<|Qaw<|Qaw<|Qbe rfl<|thn<|⟨(y9),h,(mto (n:=102) [(11,I y9)] [] [] hφ0 (pw pn) qn)⟩
def Qck (N:Nat) (p0:GNet) (k2:Unit→Option Bool):Nat→Int→Option Bool
  |0,_=>none
  |n37+1,y35=>
    bif (decide (y35<(p0.Elements.length:Int))) then
     (getI p0.Elements y35).bind fun x39=>
     bif (x39.Kind==4) then
      bif (x39.Amount != 0) then
       (Qej 2000 ).bind fun x46=>
       some x46
      else
       Qck N p0 k2 n37 (w64 (y35+1))
     else
      Qck N p0 k2 n37 (w64 (y35+1))
    else
     k2 ()
def Qig (N:Nat) (p0:GNet) (p1:List Int) (p2:List (List Qaa)) (p3:List Int):Option Bool:=
  Qbl (fun _=>
    Qbl (fun _=>
      (Qi1 N p0).bind fun x4=>
      (Qgz N p1).bind fun x6=>
      (Qi2 N p2).bind fun x8=>
      (Qmq N x4 x6 x8).bind fun x10=>
      bif (x10.2.2 != 0) then
       bif (x10.2.2==7) then
        (Qf5 N p0 p1 p2 p3).bind fun x14=>
        bif (!x14) then
         (Qej 2000 ).bind fun x17=>
         some x17
        else
         some false
       else
        some false
      else
       Qbl (fun _=>
         (Qf5 N p0 p1 p2 p3).bind fun x20=>
         bif (!x20) then
          (Qej 2000 ).bind fun x23=>
          some x23
         else
          (Qh6 N p0 p1 p2 p3).bind fun x25=>
          bif (decide (x25≤x10.2.1)) then
           (Qej 2000 ).bind fun x28=>
           some x28
          else
           some false) fun k18:Unit→Option Bool=>
       (Qf5 N p0 p1 p2 x10.1).bind fun x30=>
       bif (!x30) then
        some false
       else
        (Qh6 N p0 p1 p2 x10.1).bind fun x33=>
        bif (x33 != x10.2.1) then
         some false
        else
         k18 ()) fun k2:Unit→Option Bool=>
    Qck N p0 k2 N 0) fun k1:Unit→Option Bool=>
  (Qk6 N p0 p2).bind fun x48=>
  bif (!x48) then
   (Qej 2000 ).bind fun x51=>
   some x51
  else
   bif (decide ((p1.length:Int)>25)) then
    (Qej 2000 ).bind fun x54=>
    some x54
   else
    bif (decide ((p3.length:Int)>25)) then
     (Qej 2000 ).bind fun x57=>
     some x57
    else
     (Qjl N p0 p1 p2).bind fun x59=>
     bif (x59 != 0) then
      (Qej 2000 ).bind fun x62=>
      some x62
     else
      (Qh0 N p0 4).bind fun x64=>
      bif (decide (x64>3)) then
       (Qej 2000 ).bind fun x67=>
       some x67
      else
       (Qjw N p0).bind fun x69=>
       bif x69 then
        (Qej 2000 ).bind fun x72=>
        some x72
       else
        k1 ()
def Qjq (p2:List (List Qaa)):AV:=.dat 1 (p2.map Qak)
def Q9b (p0:GNet):AV:=.dat 7 (p0.Elements.map Qac)
def Qns (p0:GNet):Slot:=.own 2 [[(.dat 5 (p0.Table.map Qaq)),(Q9b p0)]]
def Qqb (p0:GNet):AV:=.agg [(.dat 5 (p0.Table.map Qaq)),(Q9b p0)]
def Q1m (x10:((List Int)×Int×Int)) (p0:GNet) (p1:List Int) (p2:List (List Qaa)) (p3:List Int) (x14:Bool):List (Nat×Rec):=[(2,rp [((.tmp 82),(B ((x10.2.2==7))))] (B true)),(7,rp [((.tmp 83),(B true)),fu 53,((.tmp 84),(Qqb p0)),((.tmp 85),(.dat 1 (p1.map Qad))),((.tmp 86),(Qjq p2)),((.tmp 87),(.dat 1 (p3.map Qad)))] (B x14))]
def Q1l (p0:GNet) (p1:List Int) (p2:List (List Qaa)) (p3:List Int) (x20:Bool):List (Nat×Rec):=[(4,rp [fu 53,((.tmp 109),(Qqb p0)),((.tmp 110),(.dat 1 (p1.map Qad))),((.tmp 111),(Qjq p2)),((.tmp 112),(.dat 1 (p3.map Qad)))] (B x20))]
def Q1k p0 p1 p2 p3 x20 (x25:Int):=hcat (Q1l p0 p1 p2 p3 x20) [(6,rp [((.tmp 114),(B ((!x20))))] (B false)),(11,rp [((.tmp 115),(B false)),fu 54,((.tmp 116),(Qqb p0)),((.tmp 117),(.dat 1 (p1.map Qad))),((.tmp 118),(Qjq p2)),((.tmp 119),(.dat 1 (p3.map Qad)))] (I x25))]
def Q1j (p0:GNet) (p1:List Int) (p2:List (List Qaa)) (x10:((List Int)×Int×Int)) (x30:Bool):List (Nat×Rec):=[(4,rp [fu 53,((.tmp 94),(Qqb p0)),((.tmp 95),(.dat 1 (p1.map Qad))),((.tmp 96),(Qjq p2)),((.tmp 97),(.dat 1 (x10.1.map Qad)))] (B x30))]
def Q1i (p0:GNet) (p2:List (List Qaa)) (x48:Bool):List (Nat×Rec):=[(2,rp [fu 39,((.tmp 13),(Qqb p0)),((.tmp 14),(Qjq p2))] (B x48))]
def Q1h p0 p2 x48 (p1:List Int):=hcat (Q1i p0 p2 x48) [(4,rp [((.tmp 16),(B ((!x48))))] (B false)),(6,rp [((.tmp 17),(B false)),((.tmp 18),(.dat 1 (p1.map Qad)))] (I ((p1.length:Int))))]
def Q1g p0 p2 x48 p1 (p3:List Int):=hcat (Q1h p0 p2 x48 p1) [(9,rp [((.tmp 21),(B ((decide ((p1.length:Int)>25)))))] (B false)),(11,rp [((.tmp 22),(B false)),((.tmp 23),(.dat 1 (p3.map Qad)))] (I ((p3.length:Int))))]
def Q1f p0 p2 x48 p1 p3 (x59:Int):=hcat (Q1g p0 p2 x48 p1 p3) [(14,rp [((.tmp 26),(B ((decide ((p3.length:Int)>25)))))] (B false)),(18,rp [((.tmp 27),(B false)),fu 43,((.tmp 28),(Qqb p0)),((.tmp 29),(.dat 1 (p1.map Qad))),((.tmp 30),(Qjq p2))] (I x59))]
def Q1e p0 p2 x48 p1 p3 x59 (x64:Int):=hcat (Q1f p0 p2 x48 p1 p3 x59) [(21,rp [((.tmp 33),(B ((x59 != 0))))] (B false)),(23,rp [((.tmp 34),(B false)),fu 29,((.tmp 35),(Qqb p0)),((.const (.int .u8 4)),(K .u8 (4)))] (I x64))]
theorem Qo2 (N:Nat) (p0:GNet) (p1:List Int) (p2:List (List Qaa)) (p3:List Int) (r:Bool) (h:Qig N p0 p1 p2 p3=some r):Spec prog 12 [(.agg (Qf6 p0)),(.dat 1 (p1.map Qad)),(.dat 1 (p2.map Qak)),(.dat 1 (p3.map Qad))] [] (B r) []:=by
  refine Qan func12 rfl 0 (nle rfl) (fun X φ0 w0 hφ0 hd0=>?_)
  unfold Qig at h
  refine wxz ?_
  obtain⟨k1,hk_k1,h⟩:=jko h
  refine wjn (τ:=Unit) (fun t=>k1 t=some r) (fun _=>⟨mk 127 [(1,(.dat 1 (p1.map Qad))),(2,(Qjq p2)),(3,(.dat 1 (p3.map Qad))),(4,.ref 0 2 0 0)],[(Qns p0)]⟩) (fun t h=>?_) ?_
  ·subst hk_k1
   obtain⟨k2,hk_k2,h⟩:=jko h
   refine wjn (τ:=Unit) (fun t=>k2 t=some r) (fun _=>⟨mk 127 [(1,(.dat 1 (p1.map Qad))),(2,(Qjq p2)),(3,(.dat 1 (p3.map Qad))),(4,.ref 0 2 0 0)],[(Qns p0)]⟩) (fun t h=>?_) ?_
   ·subst hk_k2
    obtain⟨x4,hf3,h⟩:=bno h
    obtain⟨x6,hf5,h⟩:=bno h
    obtain⟨x8,hf7,h⟩:=bno h
    obtain⟨x10,hf9,h⟩:=bno h
    refine wx tbk [(1,rp _ _),(3,rp _ _),(5,rp _ _),(6,rp _ _)] ⟨apv Q2k (Qm8 N p0 _ hf3) (nlc (NLt.agg _ (nlc (nld Qag _) (nlc (nld Qab _) nl0))) nl0) (NLt.agg _ (nlc (nld Qag _) (nlc (nld Qab _) nl0))),apv Quz (Qio N p1 _ hf5) (nlc (nld Qaf _) nl0) (nld Qaf _),apv Zcg (Qob N p2 _ hf7) (nlc (nld Qai _) nl0) (nld Qai _),apv Zlq (Qxx N x4 x6 x8 _ hf9) (nlc (NLt.agg _ (nlc (nld Qag _) (nlc (nld Qab _) nl0))) (nlc (nld Qaf _) (nlc (nld Qai _) nl0))) (NLt.tup _ (nlc (nld Qaf _) (nlcc nl0))),tv⟩<|wsq<|wxz ?_
    refine bfe h (fun hc11 h=>?_) fun hc11 h=>?_
    ·refine wft hc11 ?_
     refine bfe h (fun hb12 h=>?_) fun hb12 h=>?_
     ·obtain⟨x14,hf13,h⟩:=bno h
      refine hpre (A:=(Q1m x10 p0 p1 p2 p3 x14)) ⟨asb hb12 (amv rfl),ag_ (apv Q2i (Qjx N p0 p1 p2 p3 _ hf13) (nlc (NLt.agg _ (nlc (nld Qag _) (nlc (nld Qab _) nl0))) (nlc (nld Qaf _) (nlc (nld Qai _) (nlc (nld Qaf _) nl0)))) nll),tv⟩ fun q1_=>?_
      refine bfe h (fun hb15 h=>?_) fun hb15 h=>?_
      ·obtain⟨x17,hf16,h⟩:=bno h
       exact wx tbk (hcat (Q1m x10 p0 p1 p2 p3 x14) [(10,rp [(.tmp 90,(B ((!x14))))] (B true)),(11,rp [(.tmp 91,B true),fu 15] (B x17))]) (hap q1_ ⟨asb hb15 (amv rfl),ag_ (apv Qmd (Qd9 2000  _ hf16) nl0 nll),tv⟩)<|Qaj<|Qal<|frb h
      ·exact wx tbk (hcat (Q1m x10 p0 p1 p2 p3 x14) [(10,rp [(.tmp 90,(B ((!x14))))] (B false))]) (hap q1_ ⟨asb hb15 (amv rfl),tv⟩)<|Qaj<|Qal<|frb h
     ·exact wx tbk [(2,rp [(.tmp 82,(B ((x10.2.2==7))))] (B false))] ⟨asb hb12 (amv rfl),tv⟩<|Qaj<|Qal<|frb h
    ·refine wfn hc11<|Qap<|thn ?_
     obtain⟨k18,hk_k18,h⟩:=jko h
     refine wjn (τ:=Unit) (fun t=>k18 t=some r) (fun _=>⟨mk 127 [(1,(.dat 1 (p1.map Qad))),(2,(Qjq p2)),(3,(.dat 1 (p3.map Qad))),(4,.ref 0 2 0 0),(11,I x10.2.1)],[(Qns p0)]⟩) (fun t h=>?_) ?_
     ·subst hk_k18
      obtain⟨x20,hf19,h⟩:=bno h
      refine hpre (A:=(Q1l p0 p1 p2 p3 x20)) ⟨apv Q2i (Qjx N p0 p1 p2 p3 _ hf19) (nlc (NLt.agg _ (nlc (nld Qag _) (nlc (nld Qab _) nl0))) (nlc (nld Qaf _) (nlc (nld Qai _) (nlc (nld Qaf _) nl0)))) nll,tv⟩ fun q2_=>?_
      refine bfe h (fun hb21 h=>?_) fun hb21 h=>?_
      ·obtain⟨x23,hf22,h⟩:=bno h
       exact wx tbk (hcat (Q1l p0 p1 p2 p3 x20) [(6,rp [(.tmp 114,(B ((!x20))))] (B true)),(16,rp [(.tmp 124,B true),fu 15] (B x23))]) (hap q2_ ⟨asb hb21 (amv rfl),ag_ (apv Qmd (Qd9 2000  _ hf22) nl0 nll),tv⟩)<|Qaj<|frb h
      ·obtain⟨x25,hf24,h⟩:=bno h
       refine hpre (A:=(Q1k p0 p1 p2 p3 x20 x25)) (hap q2_ ⟨asb hb21 (amv rfl),ag_ (apv Zcf (Qoa N p0 p1 p2 p3 _ hf24) (nlc (NLt.agg _ (nlc (nld Qag _) (nlc (nld Qab _) nl0))) (nlc (nld Qaf _) (nlc (nld Qai _) (nlc (nld Qaf _) nl0)))) nll),tv⟩) fun q3_=>?_
       refine bfe h (fun hb26 h=>?_) fun hb26 h=>?_
       ·obtain⟨x28,hf27,h⟩:=bno h
        exact wx tbk (hcat (Q1k p0 p1 p2 p3 x20 x25) [(15,rp [(.tmp 123,(B ((decide (x25≤x10.2.1)))))] (B true)),(16,rp [(.tmp 124,B true),fu 15] (B x28))]) (hap q3_ ⟨asb hb26 (amv rfl),ag_ (apv Qmd (Qd9 2000  _ hf27) nl0 nll),tv⟩)<|Qaj<|frb h
       ·exact wx tbk (hcat (Q1k p0 p1 p2 p3 x20 x25) [(15,rp [(.tmp 123,(B ((decide (x25≤x10.2.1)))))] (B false))]) (hap q3_ ⟨asb hb26 (amv rfl),tv⟩)<|Qaj<|frb h
     ·skip
      obtain⟨x30,hf29,h⟩:=bno h
      refine hpre (A:=(Q1j p0 p1 p2 x10 x30)) ⟨apv Q2i (Qjx N p0 p1 p2 x10.1 _ hf29) (nlc (NLt.agg _ (nlc (nld Qag _) (nlc (nld Qab _) nl0))) (nlc (nld Qaf _) (nlc (nld Qai _) (nlc (nld Qaf _) nl0)))) nll,tv⟩ fun q4_=>?_
      refine bfe h (fun hb31 h=>?_) fun hb31 h=>?_
      ·exact wx tbk (hcat (Q1j p0 p1 p2 x10 x30) [(6,rp [(.tmp 99,(B ((!x30))))] (B true))]) (hap q4_ ⟨asb hb31 (amv rfl),tv⟩)<|wtr<|wxz<|Qaj<|Qal<|frb h
      ·obtain⟨x33,hf32,h⟩:=bno h
       refine wx tbk (hcat (Q1j p0 p1 p2 x10 x30) [(6,rp [(.tmp 99,(B ((!x30))))] (B false)),(11,rp [(.tmp 100,B false),fu 54,(.tmp 101,(Qqb p0)),(.tmp 102,(.dat 1 (p1.map Qad))),(.tmp 103,(Qjq p2)),(.tmp 104,(.dat 1 (x10.1.map Qad)))] (I x33))]) (hap q4_ ⟨asb hb31 (amv rfl),ag_ (apv Zcf (Qoa N p0 p1 p2 x10.1 _ hf32) (nlc (NLt.agg _ (nlc (nld Qag _) (nlc (nld Qab _) nl0))) (nlc (nld Qaf _) (nlc (nld Qai _) (nlc (nld Qaf _) nl0)))) nll),tv⟩) ?_
       refine bfe h (fun hc34 h=>?_) fun hc34 h=>?_
       ·exact wft hc34<|wxz<|Qaj<|Qal<|frb h
       ·exact wfn hc34<|Qap<|thn<|⟨(),h,(mto (n:=127) [(1,(.dat 1 (p1.map Qad))),(2,(Qjq p2)),(3,(.dat 1 (p3.map Qad))),(4,.ref 0 2 0 0),(11,I x10.2.1)] [0] [(Qns p0)] hφ0 (pc (rnd Qaf) (pc (rnd Qai) (pc (rnd Qaf) (prr (pw pn))))) (qb (lc (rnd Qag) (lc (rnd Qab) ln)) qn))⟩
   ·skip
    refine wxz<|Qar ?_
    refine wmr (mto (n:=127) (l':=[(1,(.dat 1 (p1.map Qad))),(2,(Qjq p2)),(3,(.dat 1 (p3.map Qad))),(4,.ref 0 2 0 0),(9,I 0)]) (own':=[(Qns p0)]) [(1,(.dat 1 (p1.map Qad))),(2,(Qjq p2)),(3,(.dat 1 (p3.map Qad))),(4,.ref 0 2 0 0),(9,I 0)] [0] [(Qns p0)] hφ0 (pc (rnd Qaf) (pc (rnd Qai) (pc (rnd Qaf) (prr (pw pn))))) (qb (lc (rnd Qag) (lc (rnd Qab) ln)) qn)) ?_
    refine Qbt (τ:=Int) (fun n t=>Qck N p0 k2 n t=some r) (fun y35=>⟨mk 127 [(1,(.dat 1 (p1.map Qad))),(2,(Qjq p2)),(3,(.dat 1 (p3.map Qad))),(4,.ref 0 2 0 0),(9,I y35)],[(Qns p0)]⟩) (fun t h=>by rw[Qck] at h;cases h) (fun n37 ih y35 h=>?_) N (0) h
    rw[Qck] at h
    skip
    refine wsq<|wx tbk [(3,rp _ _)] ⟨alq 7 Qac p0.Elements underlying24,tv⟩ ?_
    refine bfe h (fun hc38 h=>?_) fun hc38 h=>?_
    ·refine wft hc38<|Qap<|thn<|wsq<|Qar ?_
     obtain⟨x39,hg40,h⟩:=bno h
     obtain⟨hi41,hj42⟩:=gsm hg40
     refine bfe h (fun hb43 h=>?_) fun hb43 h=>?_
     ·refine wx tbk [(3,rp _ _),(7,rp [(.tmp 57,(B ((x39.Kind==4))))] (B true)),(11,rp [(.tmp 58,B true),(.tmp 60,(Q9b p0)),(.tmp 61,I y35)] (.dptr (Qac x39) 0))] ⟨aiq underlying24 ti59 Qac hi41 hj42,asb hb43 (amv rfl),ag_ (aiq underlying24 ti59 Qac hi41 hj42),tv⟩ ?_
      refine bfe h (fun hc44 h=>?_) fun hc44 h=>?_
      ·refine wft hc44 ?_
       obtain⟨x46,hf45,h⟩:=bno h
       exact wx tbk [(0,rp _ _)] ⟨apv Qmd (Qd9 2000  _ hf45) nl0 nll,tv⟩<|Qaj<|Qat<|Qal<|Qal<|Qat<|Qal<|frb h
      ·exact wfn hc44<|Qap<|bln<|thn<|wxz1<|thn<|arm (mto (n:=127) [(1,(.dat 1 (p1.map Qad))),(2,(Qjq p2)),(3,(.dat 1 (p3.map Qad))),(4,.ref 0 2 0 0),(9,(I (w64 (y35+1))))] [0] [(Qns p0)] hφ0 (pc (rnd Qaf) (pc (rnd Qai) (pc (rnd Qaf) (prr (pw pn))))) (qb (lc (rnd Qag) (lc (rnd Qab) ln)) qn)) (ih (w64 (y35+1)) h)
     ·exact wx tbk [(3,rp _ _),(7,rp [(.tmp 57,(B ((x39.Kind==4))))] (B false))] ⟨aiq underlying24 ti59 Qac hi41 hj42,asb hb43 (amv rfl),tv⟩<|wfa<|Qap<|bln<|thn<|wxz1<|thn<|arm (mto (n:=127) [(1,(.dat 1 (p1.map Qad))),(2,(Qjq p2)),(3,(.dat 1 (p3.map Qad))),(4,.ref 0 2 0 0),(9,(I (w64 (y35+1))))] [0] [(Qns p0)] hφ0 (pc (rnd Qaf) (pc (rnd Qai) (pc (rnd Qaf) (prr (pw pn))))) (qb (lc (rnd Qag) (lc (rnd Qab) ln)) qn)) (ih (w64 (y35+1)) h)
    ·exact wfn hc38<|Qbf<|Qaw<|Qaw<|Qbe rfl<|thn<|⟨(),h,(mto (n:=127) [(1,(.dat 1 (p1.map Qad))),(2,(Qjq p2)),(3,(.dat 1 (p3.map Qad))),(4,.ref 0 2 0 0)] [0] [(Qns p0)] hφ0 (pc (rnd Qaf) (pc (rnd Qai) (pc (rnd Qaf) (prr pn)))) (qb (lc (rnd Qag) (lc (rnd Qab) ln)) qn))⟩
  ·skip
   obtain⟨x48,hf47,h⟩:=bno h
   refine hpre (A:=(Q1i p0 p2 x48)) ⟨apv Zlv (Qx7 N p0 p2 _ hf47) (nlc (NLt.agg _ (nlc (nld Qag _) (nlc (nld Qab _) nl0))) (nlc (nld Qai _) nl0)) nll,tv⟩ fun q5_=>?_
   refine bfe h (fun hb49 h=>?_) fun hb49 h=>?_
   ·refine wx tbk (hcat (Q1i p0 p2 x48) [(4,rp [(.tmp 16,(B ((!x48))))] (B true))]) (hap q5_ ⟨asb hb49 (amv rfl),tv⟩)<|wtr ?_
    obtain⟨x51,hf50,h⟩:=bno h
    exact wx tbk [(0,rp _ _)] ⟨apv Qmd (Qd9 2000  _ hf50) nl0 nll,tv⟩<|Qaj<|Qal<|frb h
   ·refine hpre (A:=(Q1h p0 p2 x48 p1)) (hap q5_ ⟨asb hb49 (amv rfl),ag_ (alq 1 Qad p1 underlying27),tv⟩) fun q6_=>?_
    refine bfe h (fun hb52 h=>?_) fun hb52 h=>?_
    ·refine wx tbk (hcat (Q1h p0 p2 x48 p1) [(9,rp [(.tmp 21,(B ((decide ((p1.length:Int)>25)))))] (B true))]) (hap q6_ ⟨asb hb52 (amv rfl),tv⟩)<|wtr ?_
     obtain⟨x54,hf53,h⟩:=bno h
     exact wx tbk [(0,rp _ _)] ⟨apv Qmd (Qd9 2000  _ hf53) nl0 nll,tv⟩<|Qaj<|Qal<|frb h
    ·refine hpre (A:=(Q1g p0 p2 x48 p1 p3)) (hap q6_ ⟨asb hb52 (amv rfl),ag_ (alq 1 Qad p3 underlying27),tv⟩) fun q7_=>?_
     refine bfe h (fun hb55 h=>?_) fun hb55 h=>?_
     ·refine wx tbk (hcat (Q1g p0 p2 x48 p1 p3) [(14,rp [(.tmp 26,(B ((decide ((p3.length:Int)>25)))))] (B true))]) (hap q7_ ⟨asb hb55 (amv rfl),tv⟩)<|wtr ?_
      obtain⟨x57,hf56,h⟩:=bno h
      exact wx tbk [(0,rp _ _)] ⟨apv Qmd (Qd9 2000  _ hf56) nl0 nll,tv⟩<|Qaj<|Qal<|frb h
     ·obtain⟨x59,hf58,h⟩:=bno h
      refine hpre (A:=(Q1f p0 p2 x48 p1 p3 x59)) (hap q7_ ⟨asb hb55 (amv rfl),ag_ (apv Zlt (Qss N p0 p1 p2 _ hf58) (nlc (NLt.agg _ (nlc (nld Qag _) (nlc (nld Qab _) nl0))) (nlc (nld Qaf _) (nlc (nld Qai _) nl0))) nll),tv⟩) fun q8_=>?_
      refine bfe h (fun hb60 h=>?_) fun hb60 h=>?_
      ·refine wx tbk (hcat (Q1f p0 p2 x48 p1 p3 x59) [(21,rp [(.tmp 33,(B ((x59 != 0))))] (B true))]) (hap q8_ ⟨asb hb60 (amv rfl),tv⟩)<|wtr ?_
       obtain⟨x62,hf61,h⟩:=bno h
       exact wx tbk [(0,rp _ _)] ⟨apv Qmd (Qd9 2000  _ hf61) nl0 nll,tv⟩<|Qaj<|Qal<|frb h
      ·obtain⟨x64,hf63,h⟩:=bno h
       refine hpre (A:=(Q1e p0 p2 x48 p1 p3 x59 x64)) (hap q8_ ⟨asb hb60 (amv rfl),ag_ (apv Q2j (Qlf N p0 4 _ hf63) (nlc (NLt.agg _ (nlc (nld Qag _) (nlc (nld Qab _) nl0))) (nlc nll nl0)) nll),tv⟩) fun q9_=>?_
       refine bfe h (fun hb65 h=>?_) fun hb65 h=>?_
       ·refine wx tbk (hcat (Q1e p0 p2 x48 p1 p3 x59 x64) [(26,rp [(.tmp 38,(B ((decide (x64>3)))))] (B true))]) (hap q9_ ⟨asb hb65 (amv rfl),tv⟩)<|wtr ?_
        obtain⟨x67,hf66,h⟩:=bno h
        exact wx tbk [(0,rp _ _)] ⟨apv Qmd (Qd9 2000  _ hf66) nl0 nll,tv⟩<|Qaj<|Qal<|frb h
       ·obtain⟨x69,hf68,h⟩:=bno h
        refine wx tbk (hcat (Q1e p0 p2 x48 p1 p3 x59 x64) [(26,rp [(.tmp 38,(B ((decide (x64>3)))))] (B false)),(28,rp [(.tmp 39,B false),fu 50,(.tmp 40,(Qqb p0))] (B x69))]) (hap q9_ ⟨asb hb65 (amv rfl),ag_ (apv Zlr (Qvs N p0 _ hf68) (nlc (NLt.agg _ (nlc (nld Qag _) (nlc (nld Qab _) nl0))) nl0) nll),tv⟩) ?_
        refine bfe h (fun hc70 h=>?_) fun hc70 h=>?_
        ·refine wft hc70 ?_
         obtain⟨x72,hf71,h⟩:=bno h
         exact wx tbk [(0,rp _ _)] ⟨apv Qmd (Qd9 2000  _ hf71) nl0 nll,tv⟩<|Qaj<|Qal<|frb h
        ·exact wfn hc70<|Qap<|thn<|⟨(),h,(mto (n:=127) [(1,(.dat 1 (p1.map Qad))),(2,(Qjq p2)),(3,(.dat 1 (p3.map Qad))),(4,.ref 0 2 0 0)] [0] [(Qns p0)] hφ0 (pc (rnd Qaf) (pc (rnd Qai) (pc (rnd Qaf) (prr pn)))) (qb (lc (rnd Qag) (lc (rnd Qab) ln)) qn))⟩
end
section
open Go.RowKit
def stmX (x:Qae) (r:List Qaa):Int:=if x.Kind=4 then(if r.length=2 then(r.getD 0 zs).Mass else 0) else 0
def stmO:List Qae→List (List Qaa)→Int
 |x::l,r::o=>stmX x r+stmO l o
 |_,_=>0
theorem Zmh (t:List GRow) (x:Qae) (s:Qaa) (h:x.Kind=4→x.Amount=0):(actE t x s).2.2=stmX x (actE t x s).1:=by
 unfold stmX actE
 by_cases h4:x.Kind=4
 ·rw[if_neg (show ¬x.Kind=3 by omega),if_pos h4,if_pos (h h4),if_pos h4]
  rfl
 ·by_cases h3:x.Kind=3
  ·simp only[if_pos h3,if_neg h4]
  ·simp only[if_neg h3,if_neg h4]
   split<;>rfl
theorem Q4d (t:List GRow):∀(l:List (Qae×Int)) (ws:List Qaa) (o:List (List Qaa)) (ls:List Qbg) (ss:List Int) (y:Int) (r:Qvu),(∀p∈l,p.1.Kind=4→p.1.Amount=0)→Qtn t l ws o ls ss y=.inr r →
  ∃rows,r.1=o++rows∧rows.length=l.length∧r.2.2.2=y+stmO (l.map fun p=>p.1) rows
 |[],_,o,_,_,y,r,_,h=>by
  rw[Qtn] at h
  cases h
  exact⟨[],by simp,rfl,by simp[stmO]⟩
 |(x,d)::l,ws,o,ls,ss,y,r,ha,h=>by
  rw[Qtn] at h
  by_cases hm:(totS (insE o ws x)).Mass>widI x d
  ·rw[if_pos hm] at h;cases h
  ·rw[if_neg hm] at h
   obtain⟨rows,e1,e2,e3⟩:=Q4d t l _ _ _ _ _ r (fun p hp=>ha p (List.mem_cons_of_mem _ hp)) h
   refine⟨(actE t x (totS (insE o ws x))).1::rows,by rw[e1,List.append_assoc];rfl,by simp[e2],?_⟩
   rw[e3,Zmh t x _ (ha (x,d) List.mem_cons_self),List.map_cons,stmO]
   dsimp only
   omega
theorem Q6h {n:GNet}{st:List Int}(hst:StV n st) {ws:List Qaa}{r:Qvu}(ha:∀x∈n.Elements,x.Kind=4→x.Amount=0) (h:Qtm n st ws=.inr r):r.2.2.2=stmO n.Elements r.1:=by
 have e:=hst.len
 obtain⟨rows,e1,_,e3⟩:=Q4d n.Table (n.Elements.zip st) ws [] [] [] 0 r (fun p hp=>ha p.1 (List.of_mem_zip hp).1) h
 rw[e3,e1,List.nil_append,Int.zero_add,show(n.Elements.zip st).map (fun p=>p.1)=n.Elements from List.map_fst_zip (by omega)]
theorem Zek (N:Nat) (n:GNet) (t:Qhm) (f e:Int) (k:Int→Option Int) (h18:n.Elements.length≤18) (hlo:t.Out.length=n.Elements.length) (hv:∀r∈t.Out,∀s∈r,StrV s):∀(m i:Nat) (a:Int),(n.Elements.drop i).length<m→0≤a→a≤1000000*i →
  Qdm N n (t,f,e) k m a i=k (a+stmO (n.Elements.drop i) (t.Out.drop i)):=by
 intro m
 induction m with
 |zero=>intro i a h;cases h
 |succ m ih=>
  intro i a h a0 a1
  rw[Qdm]
  cases hd:n.Elements.drop i with
  |nil=>
   have:=Qb2 hd
   rw[decide_eq_false (show ¬((i:Int)<(n.Elements.length:Int)) by omega),cond_false,stmO,Int.add_zero]
   intro x l r o h1 h2
   cases h1
  |cons x q=>
   obtain⟨hg,hd',hlt⟩:=Qbp hd
   have hgo:t.Out[i]? = some (t.Out[i]'(by omega)):=List.getElem?_eq_getElem _
   have hdo:t.Out.drop i=t.Out[i]'(by omega)::t.Out.drop (i+1):=List.drop_eq_getElem_cons (by omega)
   generalize t.Out[i]'(by omega)=r at hgo hdo
   have hr:=hv r (List.mem_of_getElem? hgo)
   rw[decide_eq_true (show(i:Int)<(n.Elements.length:Int) by omega),cond_true,Qb1 hg,Option.bind_some,Qb1 hgo,Option.bind_some,hdo,stmO,w64S (i:=i) (by omega),←hd']
   have hlen:(n.Elements.drop (i+1)).length<m:=by rw[hd'];rw[hd] at h;simp at h;omega
   unfold stmX
   by_cases h4:x.Kind=4
   ·rw[show(x.Kind==4)=true by simpa using h4,cond_true,if_pos h4]
    by_cases h2:r.length=2
    ·obtain⟨s,q2,rfl⟩:∃s q2,r=s::q2:=by
      cases r with
      |nil=>simp at h2
      |cons s q2=>exact⟨s,q2,rfl⟩
     have hs:=hr s List.mem_cons_self
     have m0:=hs.m0
     have m1:=hs.m1
     rw[show(((s::q2).length:Int)==2)=true by rw[h2];rfl,cond_true,if_pos h2,show getI (s::q2) 0=some s from rfl,Option.bind_some,Qcg (x:=a+s.Mass) (by omega) (by omega),ih (i+1) _ hlen (by omega) (by omega)]
     show k (a+s.Mass+_)=k (a+(s.Mass+_))
     rw[Int.add_assoc]
    ·rw[show((r.length:Int)==2)=false by rw[beq_eq_false_iff_ne];omega,cond_false,if_neg h2,ih (i+1) _ hlen (by omega) (by omega),Int.zero_add]
   ·rw[show(x.Kind==4)=false by simpa using h4,cond_false,if_neg h4,ih (i+1) _ hlen (by omega) (by omega),Int.zero_add]
theorem Qug (k:Int):∀(l:List Qae) (i:Nat),(ofL k i l).Nodup
 |[],_=>List.nodup_nil
 |x::l,i=>by
  rw[ofL]
  split
  ·refine List.nodup_cons.2 ⟨fun h=>?_,Qug k l (i+1)⟩
   have:=Quh k l (i+1) _ h
   omega
  ·exact Qug k l (i+1)
theorem Qwc:∀(q:List (Int×Int)) (acc:List Qae) (j:Nat),(∀p∈q,p.1.toNat≠j)→(putL acc q)[j]? = acc[j]?
 |[],_,_,_=>rfl
 |(i,v)::q,acc,j,h=>by
  rw[putL,Qwc q _ j fun p hp=>h p (List.mem_cons_of_mem _ hp)]
  have hi:=h (i,v) List.mem_cons_self
  split
  ·exact List.getElem?_set_ne hi
  ·rfl
theorem Qwd:∀(q:List (Int×Int)) (acc:List Qae),(q.map fun p=>p.1).Nodup→(∀p∈q,0≤p.1∧p.1.toNat<acc.length)→∀p∈q,∃y∈putL acc q,y.Level=p.2
 |[],_,_,_,p,hp=>by cases hp
 |(i,v)::q,acc,hn,hb,p,hp=>by
  rw[List.map_cons,List.nodup_cons] at hn
  obtain⟨i0,i1⟩:=hb (i,v) List.mem_cons_self
  have hg:acc[i.toNat]? = some (acc[i.toNat]'i1):=List.getElem?_eq_getElem _
  rw[putL,hg]
  dsimp only
  rcases List.mem_cons.1 hp with rfl |hp
  ·refine⟨lev (acc[i.toNat]'i1) v,?_,rfl⟩
   apply List.mem_of_getElem? (i:=i.toNat)
   rw[Qwc q _ i.toNat fun p hp hpi=>hn.1 (List.mem_map.2 ⟨p,hp,by have:=(hb p (List.mem_cons_of_mem _ hp)).1;show p.1=i;omega⟩)]
   exact List.getElem?_set_self i1
  ·exact Qwd q _ hn.2 (fun p hp=>by rw[List.length_set];exact hb p (List.mem_cons_of_mem _ hp)) p hp
theorem Qt4:∀(q:List (Int×Int)) (acc:List Qae),∀y∈putL acc q,∃x∈acc,y.Kind=x.Kind∧y.Amount=x.Amount
 |[],_,y,h=>⟨y,h,rfl,rfl⟩
 |(i,v)::q,acc,y,h=>by
  rw[putL] at h
  obtain⟨x,hx,h1,h2⟩:=Qt4 q _ y h
  cases hg:acc[i.toNat]? with
  |none=>rw[hg] at hx;exact⟨x,hx,h1,h2⟩
  |some z=>
   rw[hg] at hx
   dsimp only at hx
   rcases List.mem_or_eq_of_mem_set hx with hx |rfl
   ·exact⟨x,hx,h1,h2⟩
   ·exact⟨z,List.mem_of_getElem? hg,h1,h2⟩
theorem Q5k (T:Nat):∀(j:Nat) (v:List Int),v.length=j→(∀z∈v,0≤z∧z<(T:Int))→v∈Qkm T j
 |0,v,hl,_=>by rw[List.eq_nil_of_length_eq_zero hl,Qkm];exact List.mem_singleton.2 rfl
 |j+1,[],hl,_=>by simp at hl
 |j+1,z::v,hl,h=>by
  have hz:=h z List.mem_cons_self
  rw[Qkm]
  refine List.mem_flatMap.2 ⟨z.toNat,List.mem_range.2 (by omega),List.mem_map.2 ⟨v,Q5k T j v (by simpa using hl) fun y hy=>h y (List.mem_cons_of_mem _ hy),?_⟩⟩
  rw[show((z.toNat:Nat):Int)=z by omega]
theorem Zal {n:GNet}{v:List Int}(hv:v.length=(ofL 4 0 n.Elements).length) (hb:netB (setN n v)=true):v∈Qkm n.Table.length (ofL 4 0 n.Elements).length:=by
 refine Q5k _ _ v hv fun z hz=>?_
 obtain⟨k,hk,rfl⟩:=List.mem_iff_getElem.1 hz
 have hm:((ofL 4 0 n.Elements)[k]'(by omega),v[k])∈(ofL 4 0 n.Elements).zip v:=by
  apply List.mem_iff_getElem.2
  exact⟨k,by rw[List.length_zip];omega,by rw[List.getElem_zip]⟩
 obtain⟨y,hy,e⟩:=Qwd ((ofL 4 0 n.Elements).zip v) n.Elements (by rw[show((ofL 4 0 n.Elements).zip v).map (fun p=>p.1)=ofL 4 0 n.Elements from List.map_fst_zip (by omega)];exact Qug 4 _ _)
  (fun p hp=>Ziw (List.of_mem_zip hp).1) _ hm
 have hl:=(Qm5 hb).level y hy
 dsimp only at e
 rw[e] at hl
 show 0≤v[k]∧v[k]<(n.Table.length:Int)
 have:(setN n v).Table.length=n.Table.length:=rfl
 omega
theorem Zaf (n:GNet) (st:List Int) (l:List (List Qaa)):∀(L:List (List Int)) (a:BS),a.1≤(L.foldl (stp n st l) a).1∧(∀v∈L,stmA n st l v≤(L.foldl (stp n st l) a).1)∧(L.foldl (stp n st l) a=a∨((L.foldl (stp n st l) a).2.1∈L∧stmA n st l (L.foldl (stp n st l) a).2.1=(L.foldl (stp n st l) a).1))
 |[],a=>⟨Int.le_refl _,fun v h=>(by cases h),.inl rfl⟩
 |v::L,a=>by
  rw[List.foldl_cons]
  obtain⟨h1,h2,h3⟩:=Zaf n st l L (stp n st l a v)
  have hs:a.1≤(stp n st l a v).1∧stmA n st l v≤(stp n st l a v).1:=by
   unfold stp
   split
   ·dsimp only;omega
   ·omega
  refine⟨by omega,fun u hu=>?_,?_⟩
  ·rcases List.mem_cons.1 hu with rfl |hu
   ·omega
   ·exact h2 u hu
  ·rcases h3 with h3 |⟨h3,h4⟩
   ·rw[h3]
    unfold stp
    by_cases hv:stmA n st l v>a.1
    ·rw[if_pos hv];exact .inr ⟨List.mem_cons_self,rfl⟩
    ·rw[if_neg hv];exact .inl rfl
   ·exact .inr ⟨List.mem_cons_of_mem _ h3,h4⟩
section
variable {N : Nat} {n : GNet} (hs : Qib n) (hN : 1001 ≤ N) {st : List Int} (hl2 : st.length ≤ 1000) {l : List (List Qaa)} (hl : l.length ≤ 1000) (hc : ∀ c ∈ l, c.length ≤ 1000) (hg : Qh7 n st l = 0)
include hg in
theorem Qzj (v:List Int) (hb:netB (setN n v)=true):Qh7 (setN n v) st l=0:=by
 have h:=hg
 unfold Qh7 at h ⊢
 cases hb1:netB n&&stB n st with
 |false=>rw[hb1] at h;cases h
 |true=>
  rw[hb1,cond_true] at h
  rw[Bool.and_eq_true] at hb1
  rw[hb,Zkk,hb1.2,Bool.and_true,cond_true]
  rw[show Qqx (setN n v) l=Qqx n l from by
   clear h hg
   induction l with
   |nil=>rfl
   |cons c l ih=>rw[Qqx,Qqx,Zey,ih]]
  exact h
include hg in
theorem Q4f {v:List Int}:stmA n st l v=-1∨(netB (setN n v)=true∧∃W,Qlv (setN n v) st l=some W∧(unsL 0 W).1=-1∧stmA n st l v=(rngF fStm W).Lo∧0≤stmA n st l v):=by
 obtain⟨hv0,hst,hf,h1⟩:=Qmv hg
 cases hb:netB (setN n v) with
 |false=>left;unfold stmA;rw[hb,cond_false]
 |true=>
  cases hd:Qlv (setN n v) st l with
  |none=>left;unfold stmA;rw[hb,cond_true,hd]
  |some W=>
   obtain⟨wl,wg⟩:=Qq1 hd
   have hW:W≠[]:=fun h=>by rw[h] at wl;simp at wl;omega
   rcases Qy9 W 0 with ⟨u1,_⟩ |⟨u1,_⟩
   ·right
    have e:stmA n st l v=(rngF fStm W).Lo:=by unfold stmA;rw[hb,cond_true,hd];dsimp only;rw[if_neg (by omega)]
    refine⟨rfl,W,rfl,u1,e,?_⟩
    rw[e]
    obtain⟨_,⟨w,hw,e1⟩,_⟩:=Zir fStm hW
    rw[←e1]
    obtain⟨i,hi,rfl⟩:=List.mem_iff_getElem.1 hw
    obtain⟨r,hT,hwi⟩:=wg i (l[i]'(by omega)) (List.getElem?_eq_getElem _)
    rw[List.getElem?_eq_getElem hi] at hwi
    rw[Option.some.inj hwi]
    exact(Qok (Qm5 hb) (Qtw v (hf _ (List.getElem_mem _))) (Qv9 v hst) hT).y0
   ·left;unfold stmA;rw[hb,cond_true,hd];dsimp only;rw[if_pos (by omega)]
include hs hN hl2 hl hc hg
theorem Qw2 {v:List Int}(hv:v.length≤1000):Qf5 N n st l v=some (decide (v.length=(ofL 4 0 n.Elements).length∧0≤stmA n st l v)):=by
 have hs2:=Qon hs v
 obtain⟨hnb,_⟩:=Qpu hg
 unfold Qf5
 rw[Zbe hs hN,Option.bind_some,Qum N hv,Option.bind_some,Zin hs hN,Option.bind_some]
 have hcnt:=Q0m n
 unfold setA
 by_cases h:netB n=true∧v.length=cntK n 4∧netB (setN n v)=true
 ·rw[if_pos h]
  obtain⟨_,hvl,hb⟩:=h
  show(bif ((0:Int) != 0) then _ else(Qgz N st).bind fun _=>_)=_
  rw[bne_self_eq_false,cond_false,Qum N hl2,Option.bind_some,Q5m hN hl hc,Option.bind_some]
  show((Qiz N (setN n v) st l).bind fun _=>_)=_
  rw[Zj8 hs2 hN hl hc hl2,Option.bind_some]
  unfold unsA
  rw[if_pos (Qzj hg v hb)]
  rcases Q4f hg (v:=v) with e |⟨_,W,hd,u1,e,e0⟩
  ·rw[decide_eq_false (by omega)]
   cases hd:Qlv (setN n v) st l with
   |none=>rfl
   |some W=>
    show(bif ((0:Int)==0) then some ((unsL 0 W).1==-1) else _)=_
    rw[beq_self_eq_true,cond_true]
    congr 1
    unfold stmA at e
    rw[hb,cond_true,hd] at e
    dsimp only at e
    by_cases hu:(unsL 0 W).1≥0
    ·rw[beq_eq_false_iff_ne];omega
    ·rw[if_neg hu] at e
     obtain⟨_,_,hf,h1⟩:=Qmv hg
     obtain⟨wl,wg⟩:=Qq1 hd
     have hW:W≠[]:=fun h=>by rw[h] at wl;simp at wl;omega
     obtain⟨_,⟨w,hw,e1⟩,_⟩:=Zir fStm hW
     obtain⟨i,hi,rfl⟩:=List.mem_iff_getElem.1 hw
     obtain⟨r,hT,hwi⟩:=wg i (l[i]'(by omega)) (List.getElem?_eq_getElem _)
     rw[List.getElem?_eq_getElem hi] at hwi
     have hst:=(Qmv hg).2.1
     have y0:=(Qok (Qm5 hb) (Qtw v (hf _ (List.getElem_mem _))) (Qv9 v hst) hT).y0
     rw[Option.some.inj hwi] at e1
     have e2:fStm (Qnu (setN n v) (l[i]'(by omega)) r)=r.2.2.2:=rfl
     omega
  ·rw[decide_eq_true ⟨by omega,e0⟩,hd]
   show(bif ((0:Int)==0) then some ((unsL 0 W).1==-1) else _)=_
   rw[u1]
   rfl
 ·rw[if_neg h,decide_eq_false]
  ·rfl
  ·rintro ⟨a,b⟩
   refine h ⟨hnb,by omega,?_⟩
   rcases Q4f hg (v:=v) with e |⟨hb,_⟩
   ·omega
   ·exact hb
theorem Q4b (ha:∀x∈n.Elements,x.Kind=4→x.Amount=0) {v:List Int}(hv:v.length≤1000) (hvl:v.length=(ofL 4 0 n.Elements).length) (h0:0≤stmA n st l v):Qh6 N n st l v=some (stmA n st l v):=by
 have hs2:=Qon hs v
 obtain⟨hnb,hrd⟩:=Qpu hg
 obtain⟨hv0,hst,hf,h1⟩:=Qmv hg
 have h18:=hs.e
 rcases Q4f hg (v:=v) with e |⟨hb,W,hd,u1,e,_⟩
 ·omega
 obtain⟨wl,wg⟩:=Qq1 hd
 have hg2:=Qzj hg v hb
 have hrd2:=(Qpu hg2).2
 have ha2:∀x∈(setN n v).Elements,x.Kind=4→x.Amount=0:=fun x hx hk=>by
  obtain⟨y,hy,e1,e2⟩:=Qt4 _ _ x hx
  rw[e2]
  exact ha y hy (by omega)
 have loop:∀(k:Int→Option Int) (m i:Nat) (y:Int),(l.drop i).length<m→i≤l.length→(0<i→y=(rngF fStm (W.take i)).Lo)→Qey N n st l (setN n v,0) k m y i=k (rngF fStm W).Lo:=by
  intro k m
  induction m with
  |zero=>intro i y h;cases h
  |succ m ih=>
   intro i y h hi hy
   rw[Qey,Qe1]
   cases hd0:l.drop i with
   |nil=>
    have:=Qb2 hd0
    rw[decide_eq_false (show ¬((i:Int)<(l.length:Int)) by omega),cond_false,hy (by omega),List.take_of_length_le (by omega)]
   |cons c q=>
    obtain⟨hgc,hd',hlt⟩:=Qbp hd0
    have hcl:=List.mem_of_getElem? hgc
    obtain⟨r,hT,hwi⟩:=wg i c hgc
    have hlen:(l.drop (i+1)).length<m:=by rw[hd'];rw[hd0] at h;simp at h;omega
    have htk:W.take (i+1)=W.take i++[Qnu (setN n v) c r]:=by rw[List.take_add_one,hwi];rfl
    have hTV:=Qok (Qm5 hb) (Qtw v (hf c hcl)) (Qv9 v hst) hT
    have hst2:=Q6h (Qv9 v hst) ha2 hT
    have hlo:=hTV.inv.lo
    rw[Qtv] at hlo
    have hdo:doA (setN n v) st c=(⟨r.1,r.2.1,r.2.2.1⟩,0,0):=by unfold doA;rw[if_pos (hrd2 c hcl),hT];rfl
    rw[decide_eq_true (show(i:Int)<(l.length:Int) by omega),cond_true]
    show(bif ((0:Int)==0) then Qbl _ _ else _)=_
    rw[beq_self_eq_true,cond_true,Qe1,Qum N hl2,Option.bind_some,Qb1 hgc,Option.bind_some,Qv6 (hc c hcl) hN,Option.bind_some]
    show((Qm4 N (setN n v) st c).bind fun _=>_)=_
    rw[Zo4 hs2 hN (hc c hcl) hl2,Option.bind_some,hdo,Qe1]
    show(bif ((0:Int) != 0) then _ else bif ((r.1.length:Int) != (n.Elements.length:Int)) then _ else Qbl _ _)=_
    rw[bne_self_eq_false,cond_false,hlo,bne_self_eq_false,cond_false,Qe1]
    refine(Zek N n ⟨r.1,r.2.1,r.2.2.1⟩ 0 0 _ h18 hlo hTV.inv.v N 0 0 (by simp;omega) (Int.le_refl _) (by omega)).trans ?_
    rw[List.drop_zero,List.drop_zero,Int.zero_add]
    have hkind:stmO n.Elements r.1=stmO (setN n v).Elements r.1:=by
     have key:∀(a b:List Qae) (o:List (List Qaa)),a.map (fun x=>x.Kind)=b.map (fun x=>x.Kind)→stmO a o=stmO b o:=fun a=>by
      induction a with
      |nil=>intro b o h;cases b with
       |nil=>rfl
       |cons=>simp at h
      |cons x a ih=>intro b o h;cases b with
       |nil=>simp at h
       |cons y b=>
        rw[List.map_cons,List.map_cons,List.cons.injEq] at h
        cases o with
        |nil=>rfl
        |cons r o=>rw[stmO,stmO,ih b o h.2];unfold stmX;rw[h.1]
     exact key _ _ _ (Qt3 _ _).symm
    rw[hkind,←hst2,w64S (i:=i) (by omega)]
    by_cases hz:i=0
    ·subst hz
     rw[show(((0:Nat):Int)==0)=true from rfl,cond_true]
     refine ih 1 _ hlen (by omega) (fun _=>?_)
     rw[htk,List.take_zero]
     rfl
    ·have hne:W.take i≠[]:=fun e=>by
      have:=congrArg List.length e
      rw[List.length_take] at this
      simp only[List.length_nil] at this
      omega
     rw[show((i:Int)==0)=false by simp;omega,cond_false,hy (by omega)]
     have e:(rngF fStm (W.take (i+1))).Lo=if r.2.2.2<(rngF fStm (W.take i)).Lo then r.2.2.2 else(rngF fStm (W.take i)).Lo:=by rw[htk,Ze0 fStm hne];rfl
     by_cases hlt2:r.2.2.2<(rngF fStm (W.take i)).Lo
     ·rw[decide_eq_true hlt2,cond_true]
      exact ih (i+1) _ hlen (by omega) (fun _=>by rw[e,if_pos hlt2])
     ·rw[decide_eq_false hlt2,cond_false]
      exact ih (i+1) _ hlen (by omega) (fun _=>by rw[e,if_neg hlt2])
 unfold Qh6
 rw[Zbe hs hN,Option.bind_some,Qum N hv,Option.bind_some,Zin hs hN,Option.bind_some,show setA n v=(setN n v,0) by unfold setA;rw[if_pos ⟨hnb,by rw[Q0m];exact hvl,hb⟩],Qe1]
 refine(loop _ N 0 (-1) (by simp;omega) (Nat.zero_le _) (fun h=>absurd h (by omega))).trans ?_
 rw[e]
end
theorem Q23 {N:Nat}{n:GNet}(hl:n.Elements.length≤1000) (k:Unit→Option Bool):∀(m i:Nat),(n.Elements.drop i).length<m →
  Qck N n k m i=some true∨(Qck N n k m i=k ()∧∀x∈n.Elements.drop i,x.Kind=4→x.Amount=0):=by
 intro m
 induction m with
 |zero=>intro i h;cases h
 |succ m ih=>
  intro i h
  rw[Qck]
  cases hd:n.Elements.drop i with
  |nil=>
   have:=Qb2 hd
   rw[decide_eq_false (show ¬((i:Int)<(n.Elements.length:Int)) by omega),cond_false]
   exact .inr ⟨rfl,fun x h=>by cases h⟩
  |cons x q=>
   obtain⟨hg,hd',hlt⟩:=Qbp hd
   have hlen:(n.Elements.drop (i+1)).length<m:=by rw[hd'];rw[hd] at h;simp at h;omega
   have hih:=ih (i+1) hlen
   rw[hd'] at hih
   rw[decide_eq_true (show(i:Int)<(n.Elements.length:Int) by omega),cond_true,Qb1 hg,Option.bind_some,w64S (i:=i) (by omega),Qy6,Option.bind_some]
   by_cases h4:x.Kind=4
   ·rw[show(x.Kind==4)=true by simpa using h4,cond_true]
    by_cases h0:x.Amount=0
    ·rw[show(x.Amount != 0)=false by rw[h0];rfl,cond_false]
     rcases hih with h |⟨h,h2⟩
     ·exact .inl h
     ·refine .inr ⟨h,fun y hy hk=>?_⟩
      rcases List.mem_cons.1 hy with rfl |hy
      ·exact h0
      ·exact h2 y hy hk
    ·rw[show(x.Amount != 0)=true by simpa using h0,cond_true]
     exact .inl rfl
   ·rw[show(x.Kind==4)=false by simpa using h4,cond_false]
    rcases hih with h |⟨h,h2⟩
    ·exact .inl h
    ·refine .inr ⟨h,fun y hy hk=>?_⟩
     rcases List.mem_cons.1 hy with rfl |hy
     ·exact absurd hk h4
     ·exact h2 y hy hk
theorem Q69 (n:GNet) (s:List Int) (l:List (List Qaa)) (v:List Int) (gn:Zbx n) (_:Qyb s) (gl:Qsb l) (_:Qyb v):Qig (n.Elements.length+s.length+l.length+v.length+2000) n s l v=some true:=by
 generalize hNN:n.Elements.length+s.length+l.length+v.length+2000=N
 have hN:1001≤N:=by omega
 have hn:(n.Elements.length:Int)≤9223372036854775807:=by
  have:=gn.2.1
  rw[Qz6] at this
  omega
 have hll:l.length≤9223372036854775807:=by
  have:=gl.1
  rw[Qz6] at this
  omega
 unfold Qig
 simp only[Qy6,Option.bind_some]
 rw[Qe1]
 rcases Zk8 (N:=N) (n:=n) (l:=l) hn hll (by omega) (by omega) with e |⟨e,hs,h8,hc⟩
 ·rw[e,Option.bind_some,Bool.not_false,cond_true]
 rw[e,Option.bind_some,Bool.not_true,cond_false]
 by_cases h25:(s.length:Int)>25
 ·rw[decide_eq_true h25,cond_true]
 rw[decide_eq_false h25,cond_false]
 by_cases hv25:(v.length:Int)>25
 ·rw[decide_eq_true hv25,cond_true]
 have s1:s.length≤1000:=by omega
 have v1:v.length≤1000:=by omega
 have hl1:l.length≤1000:=by omega
 have hc':∀c∈l,c.length≤1000:=fun c h=>by have:=hc c h;omega
 have e0:=hs.e
 rw[decide_eq_false hv25,cond_false,Zb1 hs hN hl1 hc' s1,Option.bind_some]
 by_cases hg:Qh7 n s l=0
 ·rw[hg,show((0:Int) != 0)=false from rfl,cond_false,Qs4 4 (by omega) hN,Option.bind_some,Q0m]
  by_cases h3:(ofL 4 0 n.Elements).length>3
  ·rw[decide_eq_true (show((ofL 4 0 n.Elements).length:Int)>3 by omega),cond_true]
  rw[decide_eq_false (show ¬((ofL 4 0 n.Elements).length:Int)>3 by omega),cond_false]
  rcases Zj6 hs hN with e |⟨e,hw⟩
  ·rw[e,Option.bind_some,cond_true]
  rw[e,Option.bind_some,cond_false]
  show Qbl _ _=_
  rw[Qe1]
  rcases Q23 (N:=N) (n:=n) (by omega) _ N 0 (by simp;omega) with e |⟨e,ha⟩
  ·exact e
  refine e.trans ?_
  clear e
  rw[List.drop_zero] at ha
  show((Qi1 N n).bind fun _=>_)=_
  rw[Zbe hs hN,Option.bind_some,Qum N s1,Option.bind_some,Q5m hN hl1 hc',Option.bind_some,Zl7 hs (by omega) hl1 hc' s1,Option.bind_some,Qw2 hs hN s1 hl1 hc' hg v1,Option.bind_some,Option.bind_some]
  have hbl:=Zl5 n s l
  obtain⟨_,m2,m3⟩:=Zaf n s l (Qkm n.Table.length (ofL 4 0 n.Elements).length) (-1,[],false)
  have hsome:=(Qxl n s l (Qkm n.Table.length (ofL 4 0 n.Elements).length) (-1,[],false) (Int.le_refl _) rfl).2
  have hb:Zg6 n s l=(bif (bstF n s l).2.2 then((bstF n s l).2.1,(bstF n s l).1,0) else([],0,7)):=by unfold Zg6;rw[if_pos hg,if_neg h3]
  have hall:(v.length=(ofL 4 0 n.Elements).length∧0≤stmA n s l v)→stmA n s l v≤(bstF n s l).1:=fun ⟨a,b⟩=>by
   rcases Q4f hg (v:=v) with e |⟨hb,_⟩
   ·omega
   ·exact m2 v (Zal a hb)
  rw[hb]
  rw[show(bstF n s l).2.2=decide (0≤(bstF n s l).1) from hsome]
  by_cases hm:0≤(bstF n s l).1
  ·rw[decide_eq_true hm,cond_true]
   have hin:(bstF n s l).2.1∈Qkm n.Table.length (ofL 4 0 n.Elements).length∧stmA n s l (bstF n s l).2.1=(bstF n s l).1:=by
    rcases m3 with e |e
    ·have:(bstF n s l).1=-1:=congrArg Prod.fst e
     omega
    ·exact e
   have hlen:=Qu5 _ _ _ hin.1
   show(bif ((0:Int) != 0) then _ else Qbl _ _)=_
   rw[bne_self_eq_false,cond_false,Qe1]
   show((Qf5 N n s l (bstF n s l).2.1).bind fun _=>_)=_
   rw[Qw2 hs hN s1 hl1 hc' hg (by omega),Option.bind_some,decide_eq_true ⟨hlen,by rw[hin.2];exact hm⟩,Bool.not_true,cond_false]
   show((Qh6 N n s l (bstF n s l).2.1).bind fun _=>_)=_
   rw[Q4b hs hN s1 hl1 hc' hg ha (by omega) hlen (by rw[hin.2];exact hm),Option.bind_some,hin.2]
   show(bif ((bstF n s l).1 != (bstF n s l).1) then _ else _)=_
   rw[bne_self_eq_false,cond_false]
   by_cases hA:v.length=(ofL 4 0 n.Elements).length∧0≤stmA n s l v
   ·rw[decide_eq_true hA,Bool.not_true,cond_false,Q4b hs hN s1 hl1 hc' hg ha v1 hA.1 hA.2,Option.bind_some]
    show(bif decide (stmA n s l v≤(bstF n s l).1) then _ else _)=_
    rw[decide_eq_true (hall hA),cond_true]
   ·rw[decide_eq_false hA,Bool.not_false,cond_true]
  ·rw[decide_eq_false hm,cond_false,decide_eq_false (fun hA=>hm (Int.le_trans hA.2 (hall hA)))]
   rfl
 ·rw[show(Qh7 n s l != 0)=true by simpa using hg,cond_true]
end
end Go.Proofs.YtmbhnllcfmiajaaGreat
