/-
  The texts PCa6, PEr6, PCb6, PCc6, PCd6, PCe6, PLf6, X15, PCf6 of the proof, one behind the other. No conditions.
-/
import Derived.Test.YtmbhnllcfmiajaaGreatG5
namespace Go.Proofs.YtmbhnllcfmiajaaGreat
open _root_.Go.Proofs.Tryz
section
open Go.RowKit
theorem Zbn (N:Nat) (l:List (List Qaa)) (k:List (List Qaa)→Option (List (List Qaa))) (hN:1001≤N) (hl:l.length≤1000) (hc:∀c∈l,c.length≤1000):∀(m i:Nat) (acc:List (List Qaa)),(l.drop i).length<m→acc.length=i→Qfg N l k m acc i=k (acc++l.drop i):=by
 intro m
 induction m with
 |zero=>intro i _ h;exact absurd h (Nat.not_lt_zero _)
 |succ m ih=>
  intro i acc h ha
  rw[Qfg]
  cases hd:l.drop i with
  |nil=>
   have:=Qb4 hd
   simp[show ¬((i:Int)<l.length) from by omega]
  |cons p q=>
   obtain⟨hg,hd',hlt⟩:=Qbs hd
   simp only[show decide ((i:Int)<l.length)=true from by simpa using hlt,cond_true,Qb6 hg,Option.bind_some,Qs5 (hc p (List.mem_of_getElem? hg)) hN,chk]
   rw[show decide ((acc.length+[p].length)*24≤140737488355328)=true by simp;omega,cond_true,Qbm (x:=(i:Int)+1) (by omega) (by omega),show(i:Int)+1=((i+1:Nat):Int) by omega,
    ih (i+1) _ (by rw[hd'];rw[hd] at h;simp at h;omega) (by simp[ha]),hd',List.append_assoc]
   rfl
theorem Zmc {N:Nat}{l:List (List Qaa)}(hN:1001≤N) (hl:l.length≤1000) (hc:∀c∈l,c.length≤1000):Qjv N l=some l:=by
 unfold Qjv
 rw[Qfi]
 refine(Zbn N l _ hN hl hc N 0 [] (by simp;omega) rfl).trans ?_
 rw[List.drop_zero,List.nil_append]
theorem Zg7 (N:Nat) (l:List (List Qaa)) (k:Unit→Option Bool) (hl:l.length≤9223372036854775807):∀(m i:Nat),(l.drop i).length<m→Qfk N k l m i=bif (l.drop i).all (fun c=>decide (c.length≤25)) then k () else some false:=by
 intro m
 induction m with
 |zero=>intro i h;exact absurd h (Nat.not_lt_zero _)
 |succ m ih=>
  intro i h
  rw[Qfk]
  cases hd:l.drop i with
  |nil=>
   have:=Qb4 hd
   simp[show ¬((i:Int)<l.length) from by omega]
  |cons p q=>
   obtain⟨hg,hd',hlt⟩:=Qbs hd
   simp only[show decide ((i:Int)<l.length)=true from by simpa using hlt,cond_true,Qb6 hg,Option.bind_some,List.all_cons]
   by_cases hp:p.length≤25
   ·rw[decide_eq_false (show ¬((p.length:Int)>25) by omega),decide_eq_true hp,cond_false,Bool.true_and,Qbm (x:=(i:Int)+1) (by omega) (by omega),show(i:Int)+1=((i+1:Nat):Int) by omega,ih (i+1) (by rw[hd'];rw[hd] at h;simp at h;omega),hd']
   ·rw[decide_eq_true (show(p.length:Int)>25 by omega),decide_eq_false hp]
    rfl
theorem Zrt {N:Nat}{n:GNet}{l:List (List Qaa)}(hn:(n.Elements.length:Int)≤9223372036854775807) (hl:l.length≤9223372036854775807) (hN:n.Elements.length+1001≤N) (hN2:l.length<N):Qma N n l=some false∨(Qma N n l=some true∧Qjy n∧l.length≤8∧∀c∈l,c.length≤25):=by
 unfold Qma
 rw[Qfi]
 have hloop:=fun k=>Zg7 N l k hl N 0 (by simp;omega)
 simp only[List.drop_zero] at hloop
 rw[show ∀k,Qfk N k l N 0=_ from hloop]
 cases ha:l.all (fun c=>decide (c.length≤25)) with
 |false=>exact .inl rfl
 |true=>
  rw[cond_true]
  rcases Zu3 (N:=N) (n:=n) (ws:=[]) hn (by omega) with e |⟨e,hs,_⟩
  ·rw[e];exact .inl rfl
  ·rw[e,Option.bind_some,cond_true]
   by_cases h8:l.length≤8
   ·rw[decide_eq_true (show(l.length:Int)≤8 by omega)]
    exact .inr ⟨rfl,hs,h8,fun c hc=>by simpa using List.all_eq_true.1 ha c hc⟩
   ·rw[decide_eq_false (show ¬((l.length:Int)≤8) by omega)]
    exact .inl rfl
def Qx3 (n:GNet):List (List Qaa)→Int
 |[]=>0
 |c::l=>if fedI n c=0 then Qx3 n l else fedI n c
def Qkk (n:GNet) (st:List Int) (l:List (List Qaa)):Int:=bif netB n&&stB n st then(bif btw l.length 1 6 then Qx3 n l else 3) else 1
section
variable {N : Nat} {n : GNet} (hs : Qjy n) (hN : 1001 ≤ N) {l : List (List Qaa)} (hl : l.length ≤ 1000) (hc : ∀ c ∈ l, c.length ≤ 1000)
include hs hN hl hc
theorem Q58 (k:Unit→Option Int) (hk:k ()=some 0):∀(m i:Nat),(l.drop i).length<m→Qfp N n l k m i=some (Qx3 n (l.drop i)):=by
 intro m
 induction m with
 |zero=>intro i h;exact absurd h (Nat.not_lt_zero _)
 |succ m ih=>
  intro i h
  rw[Qfp]
  cases hd:l.drop i with
  |nil=>
   have:=Qb4 hd
   rw[decide_eq_false (show ¬((i:Int)<(l.length:Int)) by omega),cond_false,hk]
   rfl
  |cons p q=>
   obtain⟨hg,hd',hlt⟩:=Qbs hd
   simp only[show decide ((i:Int)<l.length)=true from by simpa using hlt,cond_true,Qb6 hg,Option.bind_some,Zoa hs hN (hc p (List.mem_of_getElem? hg))]
   rw[Qbm (x:=(i:Int)+1) (by omega) (by omega),show(i:Int)+1=((i+1:Nat):Int) by omega,ih (i+1) (by rw[hd'];rw[hd] at h;simp at h;omega),hd',Qx3]
   by_cases h0:fedI n p=0
   ·rw[h0,if_pos rfl];rfl
   ·rw[if_neg h0,show(fedI n p != 0)=true by simpa using h0,cond_true]
theorem Q84 {st:List Int}(hl2:st.length≤1000):Qku N n st l=some (Qkk n st l):=by
 unfold Qku Qkk
 rw[Q2n hs hN hl2,Option.bind_some]
 cases netB n&&stB n st with
 |false=>rfl
 |true=>
  rw[cond_true,cond_true,bne_self_eq_false,cond_false,Qjo,Option.bind_some]
  cases btw (l.length:Int) 1 6 with
  |false=>rfl
  |true=>
   rw[Bool.not_true,cond_false,Qfi,cond_true]
   refine(Q58 hs hN hl hc _ rfl N 0 (by simp;omega)).trans ?_
   rw[List.drop_zero]
theorem Q3o (k:Unit→Option Int) (hk:k ()=some 0):∀(m i:Nat),(l.drop i).length<m→Qdx N n l k m i=some (Qx3 n (l.drop i)):=by
 intro m
 induction m with
 |zero=>intro i h;exact absurd h (Nat.not_lt_zero _)
 |succ m ih=>
  intro i h
  rw[Qdx]
  cases hd:l.drop i with
  |nil=>
   have:=Qb4 hd
   rw[decide_eq_false (show ¬((i:Int)<(l.length:Int)) by omega),cond_false,hk]
   rfl
  |cons p q=>
   obtain⟨hg,hd',hlt⟩:=Qbs hd
   simp only[show decide ((i:Int)<l.length)=true from by simpa using hlt,cond_true,Qb6 hg,Option.bind_some,Q3y hs hN (hc p (List.mem_of_getElem? hg))]
   rw[Qbm (x:=(i:Int)+1) (by omega) (by omega),show(i:Int)+1=((i+1:Nat):Int) by omega,ih (i+1) (by rw[hd'];rw[hd] at h;simp at h;omega),hd',Qx3]
   by_cases h0:fedI n p=0
   ·rw[h0,if_pos rfl];rfl
   ·rw[if_neg h0,show(fedI n p != 0)=true by simpa using h0,cond_true]
theorem Zg9 {st:List Int}(hl2:st.length≤1000):Qkg N n st l=some (Qkk n st l):=by
 unfold Qkg Qkk
 rw[Zrh hs hN,Option.bind_some]
 cases netB n with
 |false=>rfl
 |true=>
  rw[Bool.not_true,cond_false,Za3 (n:=n) hl2 hN,Option.bind_some]
  cases stB n st with
  |false=>rfl
  |true=>
   rw[Bool.not_true,cond_false]
   unfold Qi2 btw
   rw[Qfi]
   by_cases h1:(l.length:Int)<1
   ·rw[decide_eq_true h1,decide_eq_false (show ¬1≤(l.length:Int) by omega)];rfl
   ·rw[decide_eq_false h1,decide_eq_true (show 1≤(l.length:Int) by omega),cond_false]
    by_cases h6:(l.length:Int)>6
    ·rw[decide_eq_true h6,decide_eq_false (show ¬(l.length:Int)≤6 by omega)];rfl
    ·rw[decide_eq_false h6,decide_eq_true (show(l.length:Int)≤6 by omega),cond_false,Qfi]
     have:=Q3o hs hN hl hc (fun _=>some 0) rfl N 0 (by simp;omega)
     rw[List.drop_zero] at this
     exact congrArg (fun o:Option Int=>o.bind fun x8=>some x8) this
end
def Qqj (n:GNet) (c:List Qaa) (r:Qxu):Qbt:=⟨n,⟨r.1,r.2.1,r.2.2.1⟩,c,r.2.2.2⟩
def Qnl (n:GNet) (st:List Int):List (List Qaa)→Option (List Qbt)
 |[]=>some []
 |c::l=>Quo (Qrw n st c) (fun _=>none) (fun r=>(Qnl n st l).map (Qqj n c r :: ·))
theorem Q9a {n:GNet}:∀{l:List (List Qaa)},Qx3 n l=0→∀c∈l,FedV n c
 |[],_,c,h=>by cases h
 |d::l,h0,c,h=>by
  rw[Qx3] at h0
  by_cases hd:fedI n d=0
  ·rw[if_pos hd] at h0
   rcases List.mem_cons.1 h with rfl |h
   ·exact Zg8 hd
   ·exact Q9a h0 c h
  ·rw[if_neg hd] at h0
   exact absurd h0 hd
def Zl8 (n:GNet) (st:List Int) (l:List (List Qaa)):List Qbt×Bool:=match Qnl n st l with |some w=>(w,true) |none=>([],false)
theorem Zhv {N:Nat}{n:GNet}(hs:Qjy n) (hN:1001≤N) (hv:NetV n) {st:List Int}(hst:StV n st) {l:List (List Qaa)}(hl:l.length≤1000) (hf:∀c∈l,FedV n c):∀(m i:Nat) (acc:List Qbt),(l.drop i).length<m→acc.length=i →
  Qd3 N n st (fun y=>some (y,true)) l m acc i=some (match Qnl n st (l.drop i) with |some w=>(acc++w,true) |none=>([],false)):=by
 intro m
 induction m with
 |zero=>intro i _ h;exact absurd h (Nat.not_lt_zero _)
 |succ m ih=>
  intro i acc h ha
  rw[Qd3]
  cases hd:l.drop i with
  |nil=>
   have:=Qb4 hd
   rw[decide_eq_false (show ¬((i:Int)<(l.length:Int)) by omega),cond_false,Qnl]
   simp
  |cons c q=>
   obtain⟨hg,hd',hlt⟩:=Qbs hd
   have hfc:=hf c (List.mem_of_getElem? hg)
   rw[decide_eq_true (show(i:Int)<(l.length:Int) by omega),cond_true,Qb6 hg,Option.bind_some,Zsr hs hN hv hfc hst,Qnl]
   cases hT:Qrw n st c with
   |inl a=>
    simp only[Quo,Option.bind_some,Sum.elim_inl]
    rw[decide_eq_true (show(a:Int)≥0 by omega),cond_true]
   |inr r=>
    have hR:=Qrv hv hfc hst hT
    have e1:=hR.inv.lo
    have e2:=hR.inv.ll
    have e0:=Qv7 hst
    have e3:r.2.2.1.length=n.Elements.length:=by rw[hR.ss,List.length_zipWith];omega
    simp only[Quo,Option.bind_some,Sum.elim_inr,show decide ((-1:Int)≥0)=false from rfl,cond_false,chk,Int.toNat_natCast]
    rw[show decide (n.Elements.length≤r.1.length)=true by simp;omega,show decide (n.Elements.length≤r.2.1.length)=true by simp;omega,show decide (st.length≤r.2.2.1.length)=true by simp;omega,List.take_of_length_le (by omega),List.take_of_length_le (by omega),List.take_of_length_le (by omega),cond_true,cond_true,cond_true]
    have hih:=ih (i+1) (acc++[Qqj n c r]) (by rw[hd'];rw[hd] at h;simp at h;omega) (by simp[ha])
    rw[hd'] at hih
    show(bif decide ((acc.length+[Qqj n c r].length)*8≤140737488355328) then Qd3 N n st (fun y=>some (y,true)) l m (acc++[Qqj n c r]) (w64 ((i:Int)+1)) else none)=_
    rw[show decide ((acc.length+[Qqj n c r].length)*8≤140737488355328)=true by simp;omega,cond_true,Qbm (x:=(i:Int)+1) (by omega) (by omega),show(i:Int)+1=((i+1:Nat):Int) by omega,hih]
    cases Qnl n st q with
    |none=>rfl
    |some w=>simp
theorem Zhw {N:Nat}{n:GNet}(hs:Qjy n) (hN:1001≤N) (hv:NetV n) {st:List Int}(hst:StV n st) {l:List (List Qaa)}(hl:l.length≤1000) (hf:∀c∈l,FedV n c):Qij N n st l=some (Zl8 n st l):=by
 unfold Qij
 rw[Qfi]
 refine(Zhv hs hN hv hst hl hf N 0 [] (by simp;omega) rfl).trans ?_
 unfold Zl8
 rw[List.drop_zero]
 cases Qnl n st l<;>rfl
def fstL:Nat→List Qa1→Option Nat
 |_,[]=>none
 |i,x::l=>if x.Scale>0 then some i else fstL (i+1) l
def unsL:Nat→List Qbt→Int×Int
 |_,[]=>(-1,-1)
 |k,w::l=>match fstL 0 w.Tick.Lost with |some i=>((k:Int),(i:Int)) |none=>unsL (k+1) l
end
section
open Go.RowKit
section
variable {N : Nat} {n : GNet} (hs : Qjy n) (hN : 1001 ≤ N)
include hs
include hN
end
end
section
open Go.RowKit
def wdR (r:Qbo) (v:Int):Qbo:=⟨if v<r.Lo then v else r.Lo,if v>r.Hi then v else r.Hi⟩
def rngF (f:Qbt→Int):List Qbt→Qbo
 |[]=>⟨0,0⟩
 |w::l=>l.foldl (fun r x=>wdR r (f x)) ⟨f w,f w⟩
def Has (w:Qbt) (p:Qa6):Prop:=∃r,getI w.Tick.Out p.Element=some r∧getI r p.Outlet=some (Qe3 w.Tick.Out p)
theorem Zoh (N:Nat) {w:Qbt}{p:Qa6}(h:Has w p):Qeo N w p.Element p.Outlet=some (Qe3 w.Tick.Out p).Mass:=by
 obtain⟨r,h1,h2⟩:=h
 unfold Qeo
 rw[h1,Option.bind_some,h2,Option.bind_some]
 rfl
def Qoy (p:Qa6) (w:Qbt):Int:=(Qe3 w.Tick.Out p).Mass
theorem Za2 (N:Nat) (W:List Qbt) (p:Qa6) (hl:W.length≤1000) (hh:∀w∈W,Has w p) (k:Int×Int→Option Qbo):∀(m i:Nat) (r:Qbo),((W.drop 1).drop i).length<m→Qcw N W p.Element p.Outlet k m i r.Lo r.Hi=k ((((W.drop 1).drop i).foldl (fun r x=>wdR r (Qoy p x)) r).Lo,(((W.drop 1).drop i).foldl (fun r x=>wdR r (Qoy p x)) r).Hi):=by
 intro m
 induction m with
 |zero=>intro i _ h;exact absurd h (Nat.not_lt_zero _)
 |succ m ih=>
  intro i r h
  rw[Qcw,show(1:Int).toNat=1 from rfl]
  have hl1:(W.drop 1).length≤1000:=by rw[List.length_drop];omega
  cases hd:(W.drop 1).drop i with
  |nil=>
   have:=Qb4 hd
   rw[decide_eq_false (show ¬((i:Int)<((W.drop 1).length:Int)) by omega),cond_false]
   rfl
  |cons w q=>
   obtain⟨hg,hd',hlt⟩:=Qbs hd
   have hw:=hh w (List.mem_of_mem_drop (List.mem_of_getElem? hg))
   rw[decide_eq_true (show(i:Int)<((W.drop 1).length:Int) by omega),cond_true,Qb6 hg,Option.bind_some,Zoh N hw,Option.bind_some,Option.bind_some,Qbm (x:=(i:Int)+1) (by omega) (by omega),show(i:Int)+1=((i+1:Nat):Int) by omega]
   have:=ih (i+1) (wdR r (Qoy p w)) (by rw[hd'];rw[hd] at h;simp at h;omega)
   rw[hd'] at this
   exact this
theorem Zj0 {N:Nat}(hN:1001≤N) {W:List Qbt}{p:Qa6}(hl:W.length≤1000) (hne:W≠[]) (hh:∀w∈W,Has w p):Qii N W p.Element p.Outlet=some (rngF (Qoy p) W):=by
 cases W with
 |nil=>exact absurd rfl hne
 |cons w l=>
  have hw:=hh w List.mem_cons_self
  unfold Qii Qgq
  rw[show getI (w::l) 0=some w from rfl,Option.bind_some,Zoh N hw,Option.bind_some,Option.bind_some,Qfi]
  simp only[chk]
  rw[show(decide ((0:Nat)≤1)&&decide ((1:Int)≤(((w::l).length:Nat):Int))&&decide ((((w::l).length:Nat):Int)≤(((w::l).length:Nat):Int)))=true by simp;omega,cond_true]
  have:=Za2 N (w::l) p hl hh (fun y=>some (⟨y.1,y.2⟩:Qbo)) N 0 ⟨Qoy p w,Qoy p w⟩ (by simp at hl ⊢;omega)
  rw[show(w::l).drop 1=l from rfl,List.drop_zero] at this
  exact congrArg (fun o=>o.bind fun x5=>some x5) this
theorem Zog (N:Nat) {w:Qbt}{p:Qa6}(h:Has w p):Qen N w p.Element p.Outlet=some (Qe3 w.Tick.Out p).Heat:=by
 obtain⟨r,h1,h2⟩:=h
 unfold Qen
 rw[h1,Option.bind_some,h2,Option.bind_some]
 rfl
def Qoz (p:Qa6) (w:Qbt):Int:=(Qe3 w.Tick.Out p).Heat
theorem Za1 (N:Nat) (W:List Qbt) (p:Qa6) (hl:W.length≤1000) (hh:∀w∈W,Has w p) (k:Int×Int→Option Qbo):∀(m i:Nat) (r:Qbo),((W.drop 1).drop i).length<m→Qcv N W p.Element p.Outlet k m i r.Lo r.Hi=k ((((W.drop 1).drop i).foldl (fun r x=>wdR r (Qoz p x)) r).Lo,(((W.drop 1).drop i).foldl (fun r x=>wdR r (Qoz p x)) r).Hi):=by
 intro m
 induction m with
 |zero=>intro i _ h;exact absurd h (Nat.not_lt_zero _)
 |succ m ih=>
  intro i r h
  rw[Qcv,show(1:Int).toNat=1 from rfl]
  have hl1:(W.drop 1).length≤1000:=by rw[List.length_drop];omega
  cases hd:(W.drop 1).drop i with
  |nil=>
   have:=Qb4 hd
   rw[decide_eq_false (show ¬((i:Int)<((W.drop 1).length:Int)) by omega),cond_false]
   rfl
  |cons w q=>
   obtain⟨hg,hd',hlt⟩:=Qbs hd
   have hw:=hh w (List.mem_of_mem_drop (List.mem_of_getElem? hg))
   rw[decide_eq_true (show(i:Int)<((W.drop 1).length:Int) by omega),cond_true,Qb6 hg,Option.bind_some,Zog N hw,Option.bind_some,Option.bind_some,Qbm (x:=(i:Int)+1) (by omega) (by omega),show(i:Int)+1=((i+1:Nat):Int) by omega]
   have:=ih (i+1) (wdR r (Qoz p w)) (by rw[hd'];rw[hd] at h;simp at h;omega)
   rw[hd'] at this
   exact this
theorem Zjz {N:Nat}(hN:1001≤N) {W:List Qbt}{p:Qa6}(hl:W.length≤1000) (hne:W≠[]) (hh:∀w∈W,Has w p):Qih N W p.Element p.Outlet=some (rngF (Qoz p) W):=by
 cases W with
 |nil=>exact absurd rfl hne
 |cons w l=>
  have hw:=hh w List.mem_cons_self
  unfold Qih Qgp
  rw[show getI (w::l) 0=some w from rfl,Option.bind_some,Zog N hw,Option.bind_some,Option.bind_some,Qfi]
  simp only[chk]
  rw[show(decide ((0:Nat)≤1)&&decide ((1:Int)≤(((w::l).length:Nat):Int))&&decide ((((w::l).length:Nat):Int)≤(((w::l).length:Nat):Int)))=true by simp;omega,cond_true]
  have:=Za1 N (w::l) p hl hh (fun y=>some (⟨y.1,y.2⟩:Qbo)) N 0 ⟨Qoz p w,Qoz p w⟩ (by simp at hl ⊢;omega)
  rw[show(w::l).drop 1=l from rfl,List.drop_zero] at this
  exact congrArg (fun o=>o.bind fun x5=>some x5) this
theorem Zof (N:Nat) {w:Qbt}{p:Qa6}(h:Has w p):Qem N w p.Element p.Outlet=some (Qe3 w.Tick.Out p).Silica:=by
 obtain⟨r,h1,h2⟩:=h
 unfold Qem
 rw[h1,Option.bind_some,h2,Option.bind_some]
 rfl
def Qin (p:Qa6) (w:Qbt):Int:=(Qe3 w.Tick.Out p).Silica
theorem Za0 (N:Nat) (W:List Qbt) (p:Qa6) (hl:W.length≤1000) (hh:∀w∈W,Has w p) (k:Int×Int→Option Qbo):∀(m i:Nat) (r:Qbo),((W.drop 1).drop i).length<m→Qcu N W p.Element p.Outlet k m i r.Lo r.Hi=k ((((W.drop 1).drop i).foldl (fun r x=>wdR r (Qin p x)) r).Lo,(((W.drop 1).drop i).foldl (fun r x=>wdR r (Qin p x)) r).Hi):=by
 intro m
 induction m with
 |zero=>intro i _ h;exact absurd h (Nat.not_lt_zero _)
 |succ m ih=>
  intro i r h
  rw[Qcu,show(1:Int).toNat=1 from rfl]
  have hl1:(W.drop 1).length≤1000:=by rw[List.length_drop];omega
  cases hd:(W.drop 1).drop i with
  |nil=>
   have:=Qb4 hd
   rw[decide_eq_false (show ¬((i:Int)<((W.drop 1).length:Int)) by omega),cond_false]
   rfl
  |cons w q=>
   obtain⟨hg,hd',hlt⟩:=Qbs hd
   have hw:=hh w (List.mem_of_mem_drop (List.mem_of_getElem? hg))
   rw[decide_eq_true (show(i:Int)<((W.drop 1).length:Int) by omega),cond_true,Qb6 hg,Option.bind_some,Zof N hw,Option.bind_some,Option.bind_some,Qbm (x:=(i:Int)+1) (by omega) (by omega),show(i:Int)+1=((i+1:Nat):Int) by omega]
   have:=ih (i+1) (wdR r (Qin p w)) (by rw[hd'];rw[hd] at h;simp at h;omega)
   rw[hd'] at this
   exact this
theorem Zjy {N:Nat}(hN:1001≤N) {W:List Qbt}{p:Qa6}(hl:W.length≤1000) (hne:W≠[]) (hh:∀w∈W,Has w p):Qig N W p.Element p.Outlet=some (rngF (Qin p) W):=by
 cases W with
 |nil=>exact absurd rfl hne
 |cons w l=>
  have hw:=hh w List.mem_cons_self
  unfold Qig Qgo
  rw[show getI (w::l) 0=some w from rfl,Option.bind_some,Zof N hw,Option.bind_some,Option.bind_some,Qfi]
  simp only[chk]
  rw[show(decide ((0:Nat)≤1)&&decide ((1:Int)≤(((w::l).length:Nat):Int))&&decide ((((w::l).length:Nat):Int)≤(((w::l).length:Nat):Int)))=true by simp;omega,cond_true]
  have:=Za0 N (w::l) p hl hh (fun y=>some (⟨y.1,y.2⟩:Qbo)) N 0 ⟨Qin p w,Qin p w⟩ (by simp at hl ⊢;omega)
  rw[show(w::l).drop 1=l from rfl,List.drop_zero] at this
  exact congrArg (fun o=>o.bind fun x5=>some x5) this
theorem Zoe (N:Nat) {w:Qbt}{p:Qa6}(h:Has w p):Qel N w p.Element p.Outlet=some (Qe3 w.Tick.Out p).Gas:=by
 obtain⟨r,h1,h2⟩:=h
 unfold Qel
 rw[h1,Option.bind_some,h2,Option.bind_some]
 rfl
def fGas (p:Qa6) (w:Qbt):Int:=(Qe3 w.Tick.Out p).Gas
theorem Zaz (N:Nat) (W:List Qbt) (p:Qa6) (hl:W.length≤1000) (hh:∀w∈W,Has w p) (k:Int×Int→Option Qbo):∀(m i:Nat) (r:Qbo),((W.drop 1).drop i).length<m→Qct N W p.Element p.Outlet k m i r.Lo r.Hi=k ((((W.drop 1).drop i).foldl (fun r x=>wdR r (fGas p x)) r).Lo,(((W.drop 1).drop i).foldl (fun r x=>wdR r (fGas p x)) r).Hi):=by
 intro m
 induction m with
 |zero=>intro i _ h;exact absurd h (Nat.not_lt_zero _)
 |succ m ih=>
  intro i r h
  rw[Qct,show(1:Int).toNat=1 from rfl]
  have hl1:(W.drop 1).length≤1000:=by rw[List.length_drop];omega
  cases hd:(W.drop 1).drop i with
  |nil=>
   have:=Qb4 hd
   rw[decide_eq_false (show ¬((i:Int)<((W.drop 1).length:Int)) by omega),cond_false]
   rfl
  |cons w q=>
   obtain⟨hg,hd',hlt⟩:=Qbs hd
   have hw:=hh w (List.mem_of_mem_drop (List.mem_of_getElem? hg))
   rw[decide_eq_true (show(i:Int)<((W.drop 1).length:Int) by omega),cond_true,Qb6 hg,Option.bind_some,Zoe N hw,Option.bind_some,Option.bind_some,Qbm (x:=(i:Int)+1) (by omega) (by omega),show(i:Int)+1=((i+1:Nat):Int) by omega]
   have:=ih (i+1) (wdR r (fGas p w)) (by rw[hd'];rw[hd] at h;simp at h;omega)
   rw[hd'] at this
   exact this
theorem Zjx {N:Nat}(hN:1001≤N) {W:List Qbt}{p:Qa6}(hl:W.length≤1000) (hne:W≠[]) (hh:∀w∈W,Has w p):Qif N W p.Element p.Outlet=some (rngF (fGas p) W):=by
 cases W with
 |nil=>exact absurd rfl hne
 |cons w l=>
  have hw:=hh w List.mem_cons_self
  unfold Qif Qgn
  rw[show getI (w::l) 0=some w from rfl,Option.bind_some,Zoe N hw,Option.bind_some,Option.bind_some,Qfi]
  simp only[chk]
  rw[show(decide ((0:Nat)≤1)&&decide ((1:Int)≤(((w::l).length:Nat):Int))&&decide ((((w::l).length:Nat):Int)≤(((w::l).length:Nat):Int)))=true by simp;omega,cond_true]
  have:=Zaz N (w::l) p hl hh (fun y=>some (⟨y.1,y.2⟩:Qbo)) N 0 ⟨fGas p w,fGas p w⟩ (by simp at hl ⊢;omega)
  rw[show(w::l).drop 1=l from rfl,List.drop_zero] at this
  exact congrArg (fun o=>o.bind fun x5=>some x5) this
def covW (W:List Qbt) (p:Qa6):Qet:=⟨rngF (Qoy p) W,rngF (Qoz p) W,rngF (Qin p) W,rngF (fGas p) W⟩
theorem Qua {N:Nat}(hN:1001≤N) {W:List Qbt}(b:Bool) (hl:W.length≤1000) (hne:W≠[]) (k:List Qet→Option (List Qet×Int)):∀(q:List Qa6) (y:List Qet),(∀p∈q,∀w∈W,Has w p)→y.length+q.length≤1000→Qdz N (W,b) k q y=k (y++q.map (covW W))
 |[],y,_,_=>by simp[Qdz]
 |p::q,y,hh,hy=>by
  have hp:=hh p List.mem_cons_self
  have hc:decide ((y.length+[covW W p].length)*64≤140737488355328)=true:=by simp at hy ⊢;omega
  rw[Qdz]
  rw[Zj0 hN hl hne hp,Option.bind_some,Zjz hN hl hne hp,Option.bind_some,Zjy hN hl hne hp,Option.bind_some,Zjx hN hl hne hp,Option.bind_some]
  show(bif decide ((y.length+[covW W p].length)*64≤140737488355328) then Qdz N (W,b) k q (y++[covW W p]) else none)=_
  rw[hc,cond_true,Qua hN b hl hne k q _ (fun z hz=>hh z (List.mem_cons_of_mem _ hz)) (by simp at hy ⊢;omega)]
  simp
end
section
open Go.RowKit
theorem Zu0 {n:GNet}{ws:List Qaa}{r:Qxu}(hI:InvT n ws n.Elements.length r.1 r.2.1) {p:Qa6}(hp:p∈Qh9 n) (c:List Qaa):Has (Qqj n c r) p:=by
 obtain⟨h1,h2,q,h3,h4⟩:=Zgc hI hp
 exact⟨q,by show getI r.1 p.Element=_;unfold getI;rw[if_pos h1,h3],by unfold getI;rw[if_pos h2,h4];rfl⟩
section
variable {N : Nat} {n : GNet} (hs : Qjy n) (hN : 1001 ≤ N)
include hs
end
end
section
open Go.RowKit
section
variable {N : Nat} {n : GNet} (hs : Qjy n) (hN : 1001 ≤ N) (hv : NetV n) {st : List Int} (hst : StV n st) {l : List (List Qaa)} (hl : l.length ≤ 1000) (hf : ∀ c ∈ l, FedV n c)
include hs hN hv hst hl hf
omit hs hN hv hst hl hf in
end
end
section
open Go.RowKit
theorem Zar (N:Nat) (y:Int) (w:Qbt) (hL:w.Tick.Lost.length≤1000) (k:Unit→Option (Int×Int)):∀(m j:Nat),(w.Tick.Lost.drop j).length<m→Qfe N y k w m j=match fstL j (w.Tick.Lost.drop j) with |some q=>some (y,(q:Int)) |none=>k ():=by
 intro m
 induction m with
 |zero=>intro j h;exact absurd h (Nat.not_lt_zero _)
 |succ m ih=>
  intro j h
  rw[Qfe]
  cases hd:w.Tick.Lost.drop j with
  |nil=>
   have:=Qb4 hd
   rw[decide_eq_false (show ¬((j:Int)<(w.Tick.Lost.length:Int)) by omega),cond_false,fstL]
  |cons x q=>
   obtain⟨hg,hd',hlt⟩:=Qbs hd
   rw[decide_eq_true (show(j:Int)<(w.Tick.Lost.length:Int) by omega),cond_true,Qb6 hg,Option.bind_some,fstL]
   by_cases hx:x.Scale>0
   ·rw[decide_eq_true hx,cond_true,if_pos hx]
   ·rw[decide_eq_false hx,cond_false,if_neg hx,Qbm (x:=(j:Int)+1) (by omega) (by omega),show(j:Int)+1=((j+1:Nat):Int) by omega,ih (j+1) (by rw[hd'];rw[hd] at h;simp at h;omega),hd']
theorem Zfe {N:Nat}(hN:1001≤N) (W:List Qbt) (hl:W.length≤1000) (hL:∀w∈W,w.Tick.Lost.length≤1000):∀(m i:Nat),(W.drop i).length<m→Qff N W (fun _=>some (-1,-1)) m i=some (unsL i (W.drop i)):=by
 intro m
 induction m with
 |zero=>intro i h;exact absurd h (Nat.not_lt_zero _)
 |succ m ih=>
  intro i h
  rw[Qff]
  cases hd:W.drop i with
  |nil=>
   have:=Qb4 hd
   rw[decide_eq_false (show ¬((i:Int)<(W.length:Int)) by omega),cond_false,unsL]
  |cons w q=>
   obtain⟨hg,hd',hlt⟩:=Qbs hd
   have hw:=hL w (List.mem_of_getElem? hg)
   rw[decide_eq_true (show(i:Int)<(W.length:Int) by omega),cond_true,Qfi,Qb6 hg,Option.bind_some]
   refine(Zar N (i:Int) w hw _ N 0 (by simp;omega)).trans ?_
   rw[List.drop_zero,unsL]
   cases fstL 0 w.Tick.Lost with
   |some z=>rfl
   |none=>
    dsimp only
    rw[Qbm (x:=(i:Int)+1) (by omega) (by omega),show(i:Int)+1=((i+1:Nat):Int) by omega,ih (i+1) (by rw[hd'];rw[hd] at h;simp at h;omega),hd']
theorem Zqt {N:Nat}(hN:1001≤N) {W:List Qbt}(hl:W.length≤1000) (hL:∀w∈W,w.Tick.Lost.length≤1000):Qlp N W=some (unsL 0 W):=by
 unfold Qlp
 rw[Qfi]
 have:=Zfe hN W hl hL N 0 (by simp;omega)
 rw[List.drop_zero] at this
 exact this
theorem Qpm {n:GNet}(hs:Qjy n) (hv:NetV n) {st:List Int}(hst:StV n st):∀{l:List (List Qaa)}{W:List Qbt},(∀c∈l,FedV n c)→Qnl n st l=some W→W.length=l.length∧∀w∈W,w.Tick.Lost.length≤1000∧∀p∈Qh9 n,Has w p
 |[],W,_,h=>by rw[Qnl] at h;cases h;simp
 |c::l,W,hf,h=>by
  have hfc:=hf c List.mem_cons_self
  rw[Qnl] at h
  cases hT:Qrw n st c with
  |inl a=>rw[hT] at h;cases h
  |inr r=>
   rw[hT] at h
   have hR:=Qrv hv hfc hst hT
   have hll:=hR.inv.ll
   have e0:=hs.e
   have h':(Qnl n st l).map (Qqj n c r :: ·)=some W:=h
   rw[Option.map_eq_some_iff] at h'
   obtain⟨W',h1,rfl⟩:=h'
   obtain⟨a,b⟩:=Qpm hs hv hst (fun d hd=>hf d (List.mem_cons_of_mem _ hd)) h1
   refine⟨by simp[a],fun w hw=>?_⟩
   rcases List.mem_cons.1 hw with rfl |hw
   ·exact⟨by show r.2.1.length≤1000;omega,fun p hp=>Zu0 hR.inv hp c⟩
   ·exact b w hw
def covA (n:GNet) (st:List Int) (l:List (List Qaa)):List Qet×Int:=if Qkk n st l=0 then(match Qnl n st l with |some W=>((Qh9 n).map (covW W),0) |none=>([],11)) else([],Qkk n st l)
def unsA (n:GNet) (st:List Int) (l:List (List Qaa)):Int×Int×Int:=if Qkk n st l=0 then(match Qnl n st l with |some W=>((unsL 0 W).1,(unsL 0 W).2,0) |none=>(0,0,11)) else(0,0,Qkk n st l)
theorem Qsf {n:GNet}{st:List Int}{l:List (List Qaa)}(h:Qkk n st l=0):NetV n∧StV n st∧(∀c∈l,FedV n c)∧1≤l.length:=by
 unfold Qkk at h
 cases hb:netB n&&stB n st with
 |false=>rw[hb] at h;cases h
 |true=>
  rw[hb,cond_true] at h
  rw[Bool.and_eq_true] at hb
  cases h6:btw (l.length:Int) 1 6 with
  |false=>rw[h6] at h;cases h
  |true=>
   rw[h6,cond_true] at h
   have:=Qga.1 h6
   exact⟨Q5z hb.1,Zn1 hb.2,Q9a h,by omega⟩
section
variable {N : Nat} {n : GNet} (hs : Qjy n) (hN : 1001 ≤ N) {l : List (List Qaa)} (hl : l.length ≤ 1000) (hc : ∀ c ∈ l, c.length ≤ 1000) {st : List Int} (hl2 : st.length ≤ 1000)
include hs hN hl hc hl2
theorem Zss:Qlr N n st l=some (covA n st l):=by
 have hE:=Qw9 hs
 unfold Qlr covA
 rw[Q84 hs hN hl hc hl2,Option.bind_some]
 by_cases hg:Qkk n st l=0
 ·obtain⟨hv,hst,hf,h1⟩:=Qsf hg
  rw[if_pos hg,hg,bne_self_eq_false,cond_false,Zhw hs hN hv hst hl hf,Option.bind_some]
  unfold Zl8
  cases hd:Qnl n st l with
  |none=>rfl
  |some W=>
   obtain⟨a,b⟩:=Qpm hs hv hst hf hd
   dsimp only
   rw[Bool.not_true,cond_false,Qfi,Zfd hs hv hN,Option.bind_some,Zl7 hs hN,Option.bind_some]
   refine(Qua hN true (by omega) (fun h=>by rw[h] at a;simp at a;omega) _ (Qh9 n) [] (fun p hp w hw=>(b w hw).2 p hp) (by simp;omega)).trans ?_
   rfl
 ·rw[if_neg hg,show(Qkk n st l != 0)=true by simpa using hg,cond_true]
theorem Zqu:Qlq N n st l=some (unsA n st l):=by
 unfold Qlq unsA
 rw[Q84 hs hN hl hc hl2,Option.bind_some]
 by_cases hg:Qkk n st l=0
 ·obtain⟨hv,hst,hf,h1⟩:=Qsf hg
  rw[if_pos hg,hg,bne_self_eq_false,cond_false,Zhw hs hN hv hst hl hf,Option.bind_some]
  unfold Zl8
  cases hd:Qnl n st l with
  |none=>rfl
  |some W=>
   obtain⟨a,b⟩:=Qpm hs hv hst hf hd
   dsimp only
   rw[Bool.not_true,cond_false,Zqt hN (by omega) fun w hw=>(b w hw).1,Option.bind_some]
 ·rw[if_neg hg,show(Qkk n st l != 0)=true by simpa using hg,cond_true]
end
end
section
open Go.RowKit
theorem Qy5 {α:Type}(f:α→Int):∀(l:List α),(∀x∈l,0≤f x)→∀x∈l,f x≤(l.map f).sum
 |[],_,x,h=>by simp at h
 |y::l,h,x,hx=>by
  have h1:=Qhd f l fun z hz=>h z (List.mem_cons_of_mem y hz)
  have h2:=h y List.mem_cons_self
  rw[List.map_cons,List.sum_cons]
  rcases List.mem_cons.1 hx with rfl |hx
  ·omega
  ·have:=Qy5 f l (fun z hz=>h z (List.mem_cons_of_mem y hz)) x hx
   omega
structure StT (n:GNet) (st:List Int) (t:Nat):Prop where
 len:st.length=n.Elements.length
 bd:∀d∈st,0≤d∧d≤1000000000000+10000000000*(t:Int)
theorem StT.v {n:GNet}{st:List Int}{t:Nat}(h:StT n st t) (ht:t≤1000):StV n st:=
 ⟨h.len,fun d hd=>by have:=h.bd d hd;omega⟩
theorem Zur {n:GNet}{st:List Int}(h:stB n st=true):StT n st 0:=by
 unfold stB at h
 simp only[Bool.and_eq_true,decide_eq_true_eq] at h
 refine⟨h.1,fun d hd=>?_⟩
 have:=Qga.1 (List.all_eq_true.1 h.2 d hd)
 omega
theorem Zjw {n:GNet}{ws:List Qaa}(hf:FedV n ws) {st:List Int}{t:Nat}(hst:StT n st t) {r:Qxu}(h:Zs4 n st ws r):StT n r.2.2.1 (t+1):=by
 have hl:=hst.len
 have hll:=h.inv.ll
 obtain⟨_,_,_,_,b4⟩:=Zkm h.inv hf
 refine⟨by rw[h.ss,List.length_zipWith];omega,fun d hd=>?_⟩
 rw[h.ss] at hd
 obtain⟨i,hi,e⟩:=List.mem_iff_getElem.1 hd
 rw[List.length_zipWith] at hi
 rw[List.getElem_zipWith] at e
 have h1:=hst.bd _ (List.getElem_mem (show i<st.length by omega))
 have hm:=List.getElem_mem (show i<r.2.1.length by omega)
 have h2:=Qy5 (fun l:Qa1=>l.Scale) r.2.1 (fun l q=>(h.inv.l0 l q).2.2.2) _ hm
 have h3:=(h.inv.l0 _ hm).2.2.2
 have h4:(Qx0 r.2.1).Scale=(r.2.1.map fun l=>l.Scale).sum:=rfl
 rw[←h4] at h2
 omega
theorem Zj6 {n:GNet}{st:List Int}{ws:List Qaa}(h:Qln n st ws=0):StT n st 0:=by
 unfold Qln at h
 cases hb:netB n&&stB n st with
 |false=>rw[hb] at h;cases h
 |true=>
  rw[Bool.and_eq_true] at hb
  exact Zur hb.2
def Q0p (n:GNet) (ws:List Qaa):Nat→List Int→Nat→Int×Int
 |0,_,t=>((t:Int),-1)
 |m+1,st,t=>Quo (Qrw n st ws) (fun a=>((t:Int),(a:Int))) (fun r=>Q0p n ws m r.2.2.1 (t+1))
section
variable {N : Nat} {n : GNet} (hs : Qjy n) (hN : 1001 ≤ N) (hv : NetV n) {ws : List Qaa} (hf : FedV n ws) {most : Nat} (hm : most ≤ 1000)
include hs hN hv hf hm
theorem Zgu (k:Int→Option (Int×Int×Int)) (hk:∀y,k y=some (y,-1,0)):∀(m fu t:Nat) (st:List Int),t+m=most→m<fu→StT n st t →
  Qfj N n ws (most:Int) k fu st (t:Int)=some ((Q0p n ws m st t).1,(Q0p n ws m st t).2,0):=by
 intro m
 induction m with
 |zero=>
  intro fu t st ht hfu _
  obtain⟨fu,rfl⟩:∃g,fu=g+1:=⟨fu-1,by omega⟩
  rw[Qfj,decide_eq_false (show ¬((t:Int)<(most:Int)) by omega),cond_false,hk]
  rfl
 |succ m ih=>
  intro fu t st ht hfu hst
  obtain⟨fu,rfl⟩:∃g,fu=g+1:=⟨fu-1,by omega⟩
  have hV:=hst.v (show t≤1000 by omega)
  have hsl:=hst.len
  rw[Qfj,decide_eq_true (show(t:Int)<(most:Int) by omega),cond_true,Zsr hs hN hv hf hV,Q0p]
  cases hT:Qrw n st ws with
  |inl a=>
   simp only[Quo,Option.bind_some,Sum.elim_inl]
   rw[decide_eq_true (show(a:Int)≥0 by omega),cond_true]
  |inr r=>
   have hR:=Qrv hv hf hV hT
   have hn:=Zjw hf hst hR
   have hnl:=hn.len
   simp only[Quo,Option.bind_some,Sum.elim_inr,show decide ((-1:Int)≥0)=false from rfl,cond_false,chk]
   rw[show decide (st.length≤r.2.2.1.length)=true by simp;omega,cond_true,List.take_of_length_le (by omega),Qbm (x:=(t:Int)+1) (by omega) (by omega),show(t:Int)+1=((t+1:Nat):Int) by omega]
   exact ih fu (t+1) _ (by omega) (by omega) hn
end
def lifA (n:GNet) (st:List Int) (ws:List Qaa) (most:Int):Int×Int×Int:=
 if Qln n st ws=0 then bif btw most 1 1000 then((Q0p n ws most.toNat st 0).1,(Q0p n ws most.toNat st 0).2,0) else(0,0,2) else(0,0,Qln n st ws)
theorem Zrn {N:Nat}{n:GNet}(hs:Qjy n) (hN:1001≤N) {st:List Int}{ws:List Qaa}(hl:ws.length≤1000) (hl2:st.length≤1000) (most:Int):Qnv N n st ws most=some (lifA n st ws most):=by
 unfold Qnv lifA
 rw[Q8o hs hN hl hl2,Option.bind_some]
 by_cases hr:Qln n st ws=0
 ·obtain⟨hv,_,hf,_⟩:=Qwg hr
  rw[if_pos hr,hr,bne_self_eq_false,cond_false,Qjo,Option.bind_some]
  cases hb:btw most 1 1000 with
  |false=>rfl
  |true=>
   have hb':=Qga.1 hb
   rw[Bool.not_true,cond_false,Qfi,cond_true]
   have:=Zgu hs hN hv hf (most:=most.toNat) (by omega) (fun y7=>some (y7,-1,0)) (fun _=>rfl) most.toNat N 0 st (by omega) (by omega) (Zj6 hr)
   rw[show((most.toNat:Nat):Int)=most by omega] at this
   exact this
 ·rw[if_neg hr,show(Qln n st ws != 0)=true by simpa using hr,cond_true]
end
section
set_option maxRecDepth 100000
set_option maxHeartbeats 4000000
open Go.RowKit
def Qls (_N:Nat) (p0:Int) (p1:Qbo):Option Bool:=
  bif (decide (p0≥p1.Lo)) then
   some (decide (p0≤p1.Hi))
  else
   some false
theorem Qm4 (N:Nat) (p0:Int) (p1:Qbo) (r:Bool) (h:Qls N p0 p1=some r):Spec prog 48 [(I p0),(.agg (Qpx p1))] [] (B r) []:=by
  refine Qal func48 rfl 0 (nle rfl) (fun X φ0 w0 hφ0 hd0=>?_)
  unfold Qls at h
  refine wxz ?_
  refine bfe h (fun hb1 h=>?_) fun hb1 h=>?_
  ·refine wx tbk [(4,rp [(.tmp 8,(B ((decide (p0≥p1.Lo)))))] (B true))] ⟨asb hb1 (amv rfl),tv⟩<|Qah ?_
   obtain rfl:=osi h
   exact fend ⟨[(B ((decide (p0≤p1.Hi))))],⟨rot,tv⟩,rfl⟩ nll
  ·exact wx tbk [(4,rp [(.tmp 8,(B ((decide (p0≥p1.Lo)))))] (B false))] ⟨asb hb1 (amv rfl),tv⟩<|Qah<|frb h
def Qc9 (N:Nat) (x21:((List Qa6)×Int)) (y30:(List Qas)) (k32:Unit→Option Bool):Nat→Int→Option Bool
  |0,_=>none
  |n56+1,y54=>
    bif (decide (y54<(x21.1.length:Int))) then
     chk (decide (0≤y54)&&decide (y54.toNat<(x21.1.length:Int).toNat))<|
     (y30[y54.toNat]?).bind fun x59=>
     bif (!(([x59.a0,x59.a1,x59.a2,x59.a3,x59.a4,x59.a5,x59.a6,x59.a7]:List Bool)==[true,true,true,true,true,true,true,true])) then
      some false
     else
      Qc9 N x21 y30 k32 n56 (w64 (y54+1))
    else
     k32 ()
def Qc8 (N:Nat) (x9:((List Qet)×Int)) (x21:((List Qa6)×Int)) (x81:(Qhw×Int×Int)) (k84:(List Qas)→Option Bool):Nat→Int→(List Qas)→Option Bool
  |0,_,_=>none
  |n93+1,y89,y90=>
    bif (decide (y89<(x21.1.length:Int))) then
     Qbn (fun y95=>
       Qc8 N x9 x21 x81 k84 n93 (w64 (y89+1)) y95) fun k96:(List Qas)→Option Bool=>
     (getI x21.1 y89).bind fun x97=>
     Qbn (fun _=>
       (getI x81.1.Out x97.Element).bind fun x102=>
       (getI x102 x97.Outlet).bind fun x106=>
       (getI x9.1 y89).bind fun x110=>
       Qbn (fun _=>
         Qbn (fun y115=>
           Qbn (fun y117=>
             Qbn (fun y119=>
               Qbn (fun y121=>
                 Qbn (fun y123=>
                   Qbn (fun y125=>
                     Qbn (fun y127=>
                       Qbn (fun y129=>
                         k96 (y129)) fun k130:(List Qas)→Option Bool=>
                       chk (decide (0≤y89)&&decide (y89.toNat<(x21.1.length:Int).toNat))<|
                       (y127[y89.toNat]?).bind fun x132=>
                       bif x132.a7 then
                        chk (decide (0≤y89)&&decide (y89.toNat<(x21.1.length:Int).toNat))<|
                        (y127[y89.toNat]?).bind fun x136=>
                        k130 (y127.set y89.toNat (⟨x136.a0,x136.a1,x136.a2,x136.a3,x136.a4,x136.a5,x136.a6,true⟩:Qas))
                       else
                        chk (decide (0≤y89)&&decide (y89.toNat<(x21.1.length:Int).toNat))<|
                        (y127[y89.toNat]?).bind fun x139=>
                        k130 (y127.set y89.toNat (⟨x139.a0,x139.a1,x139.a2,x139.a3,x139.a4,x139.a5,x139.a6,(x106.Gas==x110.Gas.Hi)⟩:Qas))) fun k128:(List Qas)→Option Bool=>
                     chk (decide (0≤y89)&&decide (y89.toNat<(x21.1.length:Int).toNat))<|
                     (y125[y89.toNat]?).bind fun x142=>
                     bif x142.a6 then
                      chk (decide (0≤y89)&&decide (y89.toNat<(x21.1.length:Int).toNat))<|
                      (y125[y89.toNat]?).bind fun x146=>
                      k128 (y125.set y89.toNat (⟨x146.a0,x146.a1,x146.a2,x146.a3,x146.a4,x146.a5,true,x146.a7⟩:Qas))
                     else
                      chk (decide (0≤y89)&&decide (y89.toNat<(x21.1.length:Int).toNat))<|
                      (y125[y89.toNat]?).bind fun x149=>
                      k128 (y125.set y89.toNat (⟨x149.a0,x149.a1,x149.a2,x149.a3,x149.a4,x149.a5,(x106.Gas==x110.Gas.Lo),x149.a7⟩:Qas))) fun k126:(List Qas)→Option Bool=>
                   chk (decide (0≤y89)&&decide (y89.toNat<(x21.1.length:Int).toNat))<|
                   (y123[y89.toNat]?).bind fun x152=>
                   bif x152.a5 then
                    chk (decide (0≤y89)&&decide (y89.toNat<(x21.1.length:Int).toNat))<|
                    (y123[y89.toNat]?).bind fun x156=>
                    k126 (y123.set y89.toNat (⟨x156.a0,x156.a1,x156.a2,x156.a3,x156.a4,true,x156.a6,x156.a7⟩:Qas))
                   else
                    chk (decide (0≤y89)&&decide (y89.toNat<(x21.1.length:Int).toNat))<|
                    (y123[y89.toNat]?).bind fun x159=>
                    k126 (y123.set y89.toNat (⟨x159.a0,x159.a1,x159.a2,x159.a3,x159.a4,(x106.Silica==x110.Silica.Hi),x159.a6,x159.a7⟩:Qas))) fun k124:(List Qas)→Option Bool=>
                 chk (decide (0≤y89)&&decide (y89.toNat<(x21.1.length:Int).toNat))<|
                 (y121[y89.toNat]?).bind fun x162=>
                 bif x162.a4 then
                  chk (decide (0≤y89)&&decide (y89.toNat<(x21.1.length:Int).toNat))<|
                  (y121[y89.toNat]?).bind fun x166=>
                  k124 (y121.set y89.toNat (⟨x166.a0,x166.a1,x166.a2,x166.a3,true,x166.a5,x166.a6,x166.a7⟩:Qas))
                 else
                  chk (decide (0≤y89)&&decide (y89.toNat<(x21.1.length:Int).toNat))<|
                  (y121[y89.toNat]?).bind fun x169=>
                  k124 (y121.set y89.toNat (⟨x169.a0,x169.a1,x169.a2,x169.a3,(x106.Silica==x110.Silica.Lo),x169.a5,x169.a6,x169.a7⟩:Qas))) fun k122:(List Qas)→Option Bool=>
               chk (decide (0≤y89)&&decide (y89.toNat<(x21.1.length:Int).toNat))<|
               (y119[y89.toNat]?).bind fun x172=>
               bif x172.a3 then
                chk (decide (0≤y89)&&decide (y89.toNat<(x21.1.length:Int).toNat))<|
                (y119[y89.toNat]?).bind fun x176=>
                k122 (y119.set y89.toNat (⟨x176.a0,x176.a1,x176.a2,true,x176.a4,x176.a5,x176.a6,x176.a7⟩:Qas))
               else
                chk (decide (0≤y89)&&decide (y89.toNat<(x21.1.length:Int).toNat))<|
                (y119[y89.toNat]?).bind fun x179=>
                k122 (y119.set y89.toNat (⟨x179.a0,x179.a1,x179.a2,(x106.Heat==x110.Heat.Hi),x179.a4,x179.a5,x179.a6,x179.a7⟩:Qas))) fun k120:(List Qas)→Option Bool=>
             chk (decide (0≤y89)&&decide (y89.toNat<(x21.1.length:Int).toNat))<|
             (y117[y89.toNat]?).bind fun x182=>
             bif x182.a2 then
              chk (decide (0≤y89)&&decide (y89.toNat<(x21.1.length:Int).toNat))<|
              (y117[y89.toNat]?).bind fun x186=>
              k120 (y117.set y89.toNat (⟨x186.a0,x186.a1,true,x186.a3,x186.a4,x186.a5,x186.a6,x186.a7⟩:Qas))
             else
              chk (decide (0≤y89)&&decide (y89.toNat<(x21.1.length:Int).toNat))<|
              (y117[y89.toNat]?).bind fun x189=>
              k120 (y117.set y89.toNat (⟨x189.a0,x189.a1,(x106.Heat==x110.Heat.Lo),x189.a3,x189.a4,x189.a5,x189.a6,x189.a7⟩:Qas))) fun k118:(List Qas)→Option Bool=>
           chk (decide (0≤y89)&&decide (y89.toNat<(x21.1.length:Int).toNat))<|
           (y115[y89.toNat]?).bind fun x192=>
           bif x192.a1 then
            chk (decide (0≤y89)&&decide (y89.toNat<(x21.1.length:Int).toNat))<|
            (y115[y89.toNat]?).bind fun x196=>
            k118 (y115.set y89.toNat (⟨x196.a0,true,x196.a2,x196.a3,x196.a4,x196.a5,x196.a6,x196.a7⟩:Qas))
           else
            chk (decide (0≤y89)&&decide (y89.toNat<(x21.1.length:Int).toNat))<|
            (y115[y89.toNat]?).bind fun x199=>
            k118 (y115.set y89.toNat (⟨x199.a0,(x106.Mass==x110.Mass.Hi),x199.a2,x199.a3,x199.a4,x199.a5,x199.a6,x199.a7⟩:Qas))) fun k116:(List Qas)→Option Bool=>
         chk (decide (0≤y89)&&decide (y89.toNat<(x21.1.length:Int).toNat))<|
         (y90[y89.toNat]?).bind fun x202=>
         bif x202.a0 then
          chk (decide (0≤y89)&&decide (y89.toNat<(x21.1.length:Int).toNat))<|
          (y90[y89.toNat]?).bind fun x206=>
          k116 (y90.set y89.toNat (⟨true,x206.a1,x206.a2,x206.a3,x206.a4,x206.a5,x206.a6,x206.a7⟩:Qas))
         else
          chk (decide (0≤y89)&&decide (y89.toNat<(x21.1.length:Int).toNat))<|
          (y90[y89.toNat]?).bind fun x209=>
          k116 (y90.set y89.toNat (⟨(x106.Mass==x110.Mass.Lo),x209.a1,x209.a2,x209.a3,x209.a4,x209.a5,x209.a6,x209.a7⟩:Qas))) fun k114:Unit→Option Bool=>
       (Qls N x106.Mass (⟨x110.Mass.Lo,x110.Mass.Hi⟩:Qbo)).bind fun x212=>
       bif (!x212) then
        some false
       else
        (Qls N x106.Heat (⟨x110.Heat.Lo,x110.Heat.Hi⟩:Qbo)).bind fun x215=>
        bif (!x215) then
         some false
        else
         (Qls N x106.Silica (⟨x110.Silica.Lo,x110.Silica.Hi⟩:Qbo)).bind fun x218=>
         bif (!x218) then
          some false
         else
          (Qls N x106.Gas (⟨x110.Gas.Lo,x110.Gas.Hi⟩:Qbo)).bind fun x221=>
          bif (!x221) then
           some false
          else
           k114 ()) fun k101:Unit→Option Bool=>
     bif (decide (x97.Element<0)) then
      some false
     else
      bif (decide (x97.Element≥(x81.1.Out.length:Int))) then
       some false
      else
       bif (decide (x97.Outlet<0)) then
        some false
       else
        (getI x81.1.Out x97.Element).bind fun x226=>
        bif (decide (x97.Outlet≥(x226.length:Int))) then
         some false
        else
         k101 ()
    else
     k84 (y90)
def Qco (N:Nat) (p0:GNet) (p1:(List Int)) (p2:(List (List Qaa))) (x9:((List Qet)×Int)) (x17:(Int×Int×Int)) (x21:((List Qa6)×Int)) (k31:(List Qas)→Option Bool):Nat→Int→(List Qas)→Option Bool
  |0,_,_=>none
  |n66+1,y62,y63=>
    bif (decide (y62<(p2.length:Int))) then
     Qbn (fun y68=>
       Qco N p0 p1 p2 x9 x17 x21 k31 n66 (w64 (y62+1)) y68) fun k69:(List Qas)→Option Bool=>
     (Qik N p0).bind fun x71=>
     (Qiw N p1).bind fun x73=>
     (getI p2 y62).bind fun x74=>
     (Qhf N x74).bind fun x79=>
     (Qpu N x71 x73 x79).bind fun x81=>
     bif (x81.2.2 != 0) then
      some false
     else
      Qbn (fun y83=>
        bif (x17.1==(-1)) then
         (Qkw N x81.1.State p1).bind fun x87=>
         bif (!x87) then
          some false
         else
          k69 (y83)
        else
         k69 (y83)) fun k84:(List Qas)→Option Bool=>
      Qc8 N x9 x21 x81 k84 N 0 y63
    else
     k31 (y63)
def Qiq (N:Nat) (p0:GNet) (p1:(List Int)) (p2:(List (List Qaa))):Option Bool:=
  Qbn (fun _=>
    (Qik N p0).bind fun x3=>
    (Qiw N p1).bind fun x5=>
    (Qjv N p2).bind fun x7=>
    (Qlr N x3 x5 x7).bind fun x9=>
    (Qik N p0).bind fun x11=>
    (Qiw N p1).bind fun x13=>
    (Qjv N p2).bind fun x15=>
    (Qlq N x11 x13 x15).bind fun x17=>
    (Qik N p0).bind fun x19=>
    (Qkv N x19).bind fun x21=>
    Qbn (fun _=>
      bif (x9.2 != 0) then
       bif (x9.2==11) then
        bif ((x9.1.length:Int)==0) then
         (Qhb 2000 ).bind fun x27=>
         some x27
        else
         some false
       else
        some false
      else
       bif ((x9.1.length:Int) != (x21.1.length:Int)) then
        some false
       else
        chk (decide (0≤(x21.1.length:Int))&&decide (8*(x21.1.length:Int)≤281474976710656)&&decide ((x21.1.length:Int)≤9223372036854775807))<|
        Qbn (fun y30=>
          Qbn (fun _=>
            bif (decide (x17.1≥0)) then
             bif (decide (x17.1<(p2.length:Int))) then
              (Qhb 2000 ).bind fun x36=>
              some x36
             else
              some false
            else
             (Qik N p0).bind fun x38=>
             (Qiw N p1).bind fun x40=>
             (getI p2 0).bind fun x41=>
             (Qhf N x41).bind fun x46=>
             (Qnv N x38 x40 x46 30).bind fun x48=>
             bif (x48.2.2==0) then
              bif (x48.1==30) then
               bif (x48.2.1==(-1)) then
                (Qhb 2000 ).bind fun x53=>
                some x53
               else
                some false
              else
               some false
             else
              some false) fun k32:Unit→Option Bool=>
          Qc9 N x21 y30 k32 N 0) fun k31:(List Qas)→Option Bool=>
        Qco N p0 p1 p2 x9 x17 x21 k31 N 0 (List.replicate (x21.1.length:Int).toNat (⟨false,false,false,false,false,false,false,false⟩:Qas))) fun k22:Unit→Option Bool=>
    bif (x9.2 != x17.2.2) then
     some false
    else
     bif (x21.2 != 0) then
      some false
     else
      k22 ()) fun k1:Unit→Option Bool=>
  (Qma N p0 p2).bind fun x234=>
  bif (!x234) then
   (Qhb 2000 ).bind fun x237=>
   some x237
  else
   bif (decide ((p1.length:Int)>25)) then
    (Qhb 2000 ).bind fun x240=>
    some x240
   else
    (Qkg N p0 p1 p2).bind fun x242=>
    bif (x242 != 0) then
     (Qhb 2000 ).bind fun x245=>
     some x245
    else
     k1 ()
def Qc4 (p1:(List Int)):AV:=.dat 1 ((p1:List Int).map Qav)
def Qcz (p2:(List (List Qaa))):AV:=.dat 1 ((p2:List (List Qaa)).map Qaf)
def Znh (p0:GNet):AV:=.dat 7 ((p0.Elements:List Qad).map Qai)
def Qdn (p0:GNet):Slot:=.own 2 [[(.dat 5 ((p0.Table:List GRow).map Qa7)),(Znh p0)]]
def Qvk (p0:GNet):AV:=.agg [(.dat 5 ((p0.Table:List GRow).map Qa7)),(Znh p0)]
def Zng (x3:GNet):AV:=.agg [(.dat 5 ((x3.Table:List GRow).map Qa7)),(.dat 7 ((x3.Elements:List Qad).map Qai))]
def Znf (x5:(List Int)):AV:=.dat 1 ((x5:List Int).map Qav)
def Zed (x7:(List (List Qaa))):AV:=.dat 1 ((x7:List (List Qaa)).map Qaf)
def Qcs (x9:((List Qet)×Int)):AV:=.dat 8 ((x9.1:List Qet).map Qf2)
def Zec (x11:GNet):AV:=.agg [(.dat 5 ((x11.Table:List GRow).map Qa7)),(.dat 7 ((x11.Elements:List Qad).map Qai))]
def Zeb (x15:(List (List Qaa))):AV:=.dat 1 ((x15:List (List Qaa)).map Qaf)
def Zea (x19:GNet):AV:=.agg [(.dat 5 ((x19.Table:List GRow).map Qa7)),(.dat 7 ((x19.Elements:List Qad).map Qai))]
def Qb8 (x21:((List Qa6)×Int)):AV:=.dat 2 ((x21.1:List Qa6).map Qa3)
def Qvi (x9:((List Qet)×Int)):List (Nat×Rec):=[(2,rp [((.tmp 82),(B ((x9.2==11))))] (B (true))),(4,rp [((.tmp 83),(B (true))),((.tmp 84),(Qcs x9))] (I ((x9.1.length:Int))))]
def Zd9 (x21:((List Qa6)×Int)):Slot:=.own 8 ((List.replicate (x21.1.length:Int).toNat (⟨false,false,false,false,false,false,false,false⟩:Qas):List Qas).map Qaw)
def Qmf (y30:(List Qas)):Slot:=.own 8 ((y30:List Qas).map Qaw)
def Q18 (x38:GNet):AV:=.agg [(.dat 5 ((x38.Table:List GRow).map Qa7)),(.dat 7 ((x38.Elements:List Qad).map Qai))]
def Q17 (x46:(List Qaa)):AV:=.dat 4 ((x46:List Qaa).map Qae)
def Qrl (x48:(Int×Int×Int)):List (Nat×Rec):=[(2,rp [((.tmp 316),(B ((x48.2.2==0))))] (B (true)))]
def Q16 (x59:Qas):AV:=.agg [(B (x59.a0)),(B (x59.a1)),(B (x59.a2)),(B (x59.a3)),(B (x59.a4)),(B (x59.a5)),(B (x59.a6)),(B (x59.a7))]
def Q19:AV:=.agg [(B (true)),(B (true)),(B (true)),(B (true)),(B (true)),(B (true)),(B (true)),(B (true))]
def Qzs (y63:(List Qas)):Slot:=.own 8 ((y63:List Qas).map Qaw)
def Q15 (x71:GNet):AV:=.agg [(.dat 5 ((x71.Table:List GRow).map Qa7)),(.dat 7 ((x71.Elements:List Qad).map Qai))]
def Q14 (x79:(List Qaa)):AV:=.dat 4 ((x79:List Qaa).map Qae)
def Qo1 (x81:(Qhw×Int×Int)):AV:=.dat 1 ((x81.1.Out:List (List Qaa)).map Qaf)
def Qvj (x81:(Qhw×Int×Int)):AV:=.dat 1 ((x81.1.State:List Int).map Qav)
def Qzt (y83:(List Qas)):Slot:=.own 8 ((y83:List Qas).map Qaw)
def Qca (x81:(Qhw×Int×Int)):Slot:=.own 3 [[(Qo1 x81),(.dat 4 ((x81.1.Lost:List Qa1).map Qbf)),(Qvj x81)]]
def Qh7 (y90:(List Qas)):Slot:=.own 8 ((y90:List Qas).map Qaw)
def Q13 (x106:Qaa):Slot:=.own 4 [[(I (x106.Mass)),(I (x106.Heat)),(I (x106.Silica)),(I (x106.Gas))]]
def Q12 (x110:Qet):Slot:=.own 8 [[(I (x110.Mass.Lo)),(I (x110.Mass.Hi)),(I (x110.Heat.Lo)),(I (x110.Heat.Hi)),(I (x110.Silica.Lo)),(I (x110.Silica.Hi)),(I (x110.Gas.Lo)),(I (x110.Gas.Hi))]]
def Qjg (y115:(List Qas)):Slot:=.own 8 ((y115:List Qas).map Qaw)
def Qcx (x106:Qaa) (x110:Qet):Slot:=.own 8 [[(B ((x106.Mass==x110.Mass.Lo))),(B ((x106.Mass==x110.Mass.Hi))),(B ((x106.Heat==x110.Heat.Lo))),(B ((x106.Heat==x110.Heat.Hi))),(B ((x106.Silica==x110.Silica.Lo))),(B ((x106.Silica==x110.Silica.Hi))),(B ((x106.Gas==x110.Gas.Lo))),(B ((x106.Gas==x110.Gas.Hi)))]]
def Qjf (y117:(List Qas)):Slot:=.own 8 ((y117:List Qas).map Qaw)
def Qje (y119:(List Qas)):Slot:=.own 8 ((y119:List Qas).map Qaw)
def Qjd (y121:(List Qas)):Slot:=.own 8 ((y121:List Qas).map Qaw)
def Qjc (y123:(List Qas)):Slot:=.own 8 ((y123:List Qas).map Qaw)
def Qjb (y125:(List Qas)):Slot:=.own 8 ((y125:List Qas).map Qaw)
def Qja (y127:(List Qas)):Slot:=.own 8 ((y127:List Qas).map Qaw)
def Qvh (x21:((List Qa6)×Int)) (y89:Int) (y127:(List Qas)) (x132:Qas):List (Nat×Rec):=[(6,rb [((.tmp 259),(.own 1 8 (0) ((x21.1.length:Int).toNat))),((.tmp 260),(I (y89)))] [(1,(Qja y127))] (.ref 1 8 (y89.toNat) 0)),(7,rb [((.tmp 262),(.ref 1 8 (y89.toNat) 0)),((.tmp 261),(I (7)))] [(1,(Qja y127))] (.ref 1 8 (y89.toNat) 7)),(8,rb [((.tmp 263),(.ref 1 8 (y89.toNat) 7))] [(1,(Qja y127))] (B (x132.a7)))]
def Q11 (y127:(List Qas)) (y89:Int) (x136:Qas):Slot:=.own 8 ((y127.set y89.toNat (⟨x136.a0,x136.a1,x136.a2,x136.a3,x136.a4,x136.a5,x136.a6,true⟩:Qas):List Qas).map Qaw)
def Qvg (x21:((List Qa6)×Int)) (y89:Int) (y125:(List Qas)) (x142:Qas):List (Nat×Rec):=[(6,rb [((.tmp 259),(.own 1 8 (0) ((x21.1.length:Int).toNat))),((.tmp 260),(I (y89)))] [(1,(Qjb y125))] (.ref 1 8 (y89.toNat) 0)),(7,rb [((.tmp 262),(.ref 1 8 (y89.toNat) 0)),((.tmp 261),(I (6)))] [(1,(Qjb y125))] (.ref 1 8 (y89.toNat) 6)),(8,rb [((.tmp 263),(.ref 1 8 (y89.toNat) 6))] [(1,(Qjb y125))] (B (x142.a6)))]
def Q10 (y125:(List Qas)) (y89:Int) (x146:Qas):Slot:=.own 8 ((y125.set y89.toNat (⟨x146.a0,x146.a1,x146.a2,x146.a3,x146.a4,x146.a5,true,x146.a7⟩:Qas):List Qas).map Qaw)
def Qvf (x21:((List Qa6)×Int)) (y89:Int) (y123:(List Qas)) (x152:Qas):List (Nat×Rec):=[(6,rb [((.tmp 259),(.own 1 8 (0) ((x21.1.length:Int).toNat))),((.tmp 260),(I (y89)))] [(1,(Qjc y123))] (.ref 1 8 (y89.toNat) 0)),(7,rb [((.tmp 262),(.ref 1 8 (y89.toNat) 0)),((.tmp 261),(I (5)))] [(1,(Qjc y123))] (.ref 1 8 (y89.toNat) 5)),(8,rb [((.tmp 263),(.ref 1 8 (y89.toNat) 5))] [(1,(Qjc y123))] (B (x152.a5)))]
def Q1z (y123:(List Qas)) (y89:Int) (x156:Qas):Slot:=.own 8 ((y123.set y89.toNat (⟨x156.a0,x156.a1,x156.a2,x156.a3,x156.a4,true,x156.a6,x156.a7⟩:Qas):List Qas).map Qaw)
def Qve (x21:((List Qa6)×Int)) (y89:Int) (y121:(List Qas)) (x162:Qas):List (Nat×Rec):=[(6,rb [((.tmp 259),(.own 1 8 (0) ((x21.1.length:Int).toNat))),((.tmp 260),(I (y89)))] [(1,(Qjd y121))] (.ref 1 8 (y89.toNat) 0)),(7,rb [((.tmp 262),(.ref 1 8 (y89.toNat) 0)),((.tmp 261),(I (4)))] [(1,(Qjd y121))] (.ref 1 8 (y89.toNat) 4)),(8,rb [((.tmp 263),(.ref 1 8 (y89.toNat) 4))] [(1,(Qjd y121))] (B (x162.a4)))]
def Q1y (y121:(List Qas)) (y89:Int) (x166:Qas):Slot:=.own 8 ((y121.set y89.toNat (⟨x166.a0,x166.a1,x166.a2,x166.a3,true,x166.a5,x166.a6,x166.a7⟩:Qas):List Qas).map Qaw)
def Qvd (x21:((List Qa6)×Int)) (y89:Int) (y119:(List Qas)) (x172:Qas):List (Nat×Rec):=[(6,rb [((.tmp 259),(.own 1 8 (0) ((x21.1.length:Int).toNat))),((.tmp 260),(I (y89)))] [(1,(Qje y119))] (.ref 1 8 (y89.toNat) 0)),(7,rb [((.tmp 262),(.ref 1 8 (y89.toNat) 0)),((.tmp 261),(I (3)))] [(1,(Qje y119))] (.ref 1 8 (y89.toNat) 3)),(8,rb [((.tmp 263),(.ref 1 8 (y89.toNat) 3))] [(1,(Qje y119))] (B (x172.a3)))]
def Q1x (y119:(List Qas)) (y89:Int) (x176:Qas):Slot:=.own 8 ((y119.set y89.toNat (⟨x176.a0,x176.a1,x176.a2,true,x176.a4,x176.a5,x176.a6,x176.a7⟩:Qas):List Qas).map Qaw)
def Qvc (x21:((List Qa6)×Int)) (y89:Int) (y117:(List Qas)) (x182:Qas):List (Nat×Rec):=[(6,rb [((.tmp 259),(.own 1 8 (0) ((x21.1.length:Int).toNat))),((.tmp 260),(I (y89)))] [(1,(Qjf y117))] (.ref 1 8 (y89.toNat) 0)),(7,rb [((.tmp 262),(.ref 1 8 (y89.toNat) 0)),((.tmp 261),(I (2)))] [(1,(Qjf y117))] (.ref 1 8 (y89.toNat) 2)),(8,rb [((.tmp 263),(.ref 1 8 (y89.toNat) 2))] [(1,(Qjf y117))] (B (x182.a2)))]
def Q1w (y117:(List Qas)) (y89:Int) (x186:Qas):Slot:=.own 8 ((y117.set y89.toNat (⟨x186.a0,x186.a1,true,x186.a3,x186.a4,x186.a5,x186.a6,x186.a7⟩:Qas):List Qas).map Qaw)
def Qvb (x21:((List Qa6)×Int)) (y89:Int) (y115:(List Qas)) (x192:Qas):List (Nat×Rec):=[(6,rb [((.tmp 259),(.own 1 8 (0) ((x21.1.length:Int).toNat))),((.tmp 260),(I (y89)))] [(1,(Qjg y115))] (.ref 1 8 (y89.toNat) 0)),(7,rb [((.tmp 262),(.ref 1 8 (y89.toNat) 0)),((.tmp 261),(I (1)))] [(1,(Qjg y115))] (.ref 1 8 (y89.toNat) 1)),(8,rb [((.tmp 263),(.ref 1 8 (y89.toNat) 1))] [(1,(Qjg y115))] (B (x192.a1)))]
def Q1v (y115:(List Qas)) (y89:Int) (x196:Qas):Slot:=.own 8 ((y115.set y89.toNat (⟨x196.a0,true,x196.a2,x196.a3,x196.a4,x196.a5,x196.a6,x196.a7⟩:Qas):List Qas).map Qaw)
def Qva (x21:((List Qa6)×Int)) (y89:Int) (y90:(List Qas)) (x202:Qas):List (Nat×Rec):=[(6,rb [((.tmp 259),(.own 1 8 (0) ((x21.1.length:Int).toNat))),((.tmp 260),(I (y89)))] [(1,(Qh7 y90))] (.ref 1 8 (y89.toNat) 0)),(7,rb [((.tmp 262),(.ref 1 8 (y89.toNat) 0)),((.tmp 261),(I (0)))] [(1,(Qh7 y90))] (.ref 1 8 (y89.toNat) 0)),(8,rb [((.tmp 263),(.ref 1 8 (y89.toNat) 0))] [(1,(Qh7 y90))] (B (x202.a0)))]
def Q1u (y90:(List Qas)) (y89:Int) (x206:Qas):Slot:=.own 8 ((y90.set y89.toNat (⟨true,x206.a1,x206.a2,x206.a3,x206.a4,x206.a5,x206.a6,x206.a7⟩:Qas):List Qas).map Qaw)
def Qu9 (x106:Qaa) (x110:Qet) (x212:Bool):List (Nat×Rec):=[(4,rp [fu 48,((.tmp 174),(I (x106.Mass))),((.tmp 176),(.agg [(I (x110.Mass.Lo)),(I (x110.Mass.Hi))]))] (B (x212)))]
def Qu8 (x106) (x110) (x212) (x215:Bool):=hcat (Qu9 x106 x110 x212) [(6,rp [((.tmp 178),(B ((!x212))))] (B (false))),(11,rp [((.tmp 179),(B (false))),fu 48,((.tmp 181),(I (x106.Heat))),((.tmp 183),(.agg [(I (x110.Heat.Lo)),(I (x110.Heat.Hi))]))] (B (x215)))]
def Qu7 (x106) (x110) (x212) (x215) (x218:Bool):=hcat (Qu8 x106 x110 x212 x215) [(14,rp [((.tmp 186),(B ((!x215))))] (B (false))),(19,rp [((.tmp 187),(B (false))),fu 48,((.tmp 189),(I (x106.Silica))),((.tmp 191),(.agg [(I (x110.Silica.Lo)),(I (x110.Silica.Hi))]))] (B (x218)))]
def Qrk (x97:Qa6) (x81:(Qhw×Int×Int)):List (Nat×Rec):=[(3,rp [((.tmp 133),(B ((decide (x97.Element<0)))))] (B (false))),(8,rp [((.tmp 134),(B (false))),((.tmp 138),(Qo1 x81))] (I ((x81.1.Out.length:Int))))]
def Qu6 (p0:GNet) (p2:(List (List Qaa))) (x234:Bool):List (Nat×Rec):=[(2,rp [fu 39,((.tmp 28),(Qvk p0)),((.tmp 29),(Qcz p2))] (B (x234)))]
def Qu5 (p0) (p2) (x234) (p1:(List Int)):=hcat (Qu6 p0 p2 x234) [(4,rp [((.tmp 31),(B ((!x234))))] (B (false))),(6,rp [((.tmp 32),(B (false))),((.tmp 33),(Qc4 p1))] (I ((p1.length:Int))))]
theorem Qpk (N:Nat) (p0:GNet) (p1:(List Int)) (p2:(List (List Qaa))) (r:Bool) (h:Qiq N p0 p1 p2=some r):Spec prog 10 [(.agg (Qhv p0)),(.dat 1 (p1.map Qav)),(.dat 1 (p2.map Qaf))] [] (B r) []:=by
  refine Qal func10 rfl 0 (nle rfl) (fun X φ0 w0 hφ0 hd0=>?_)
  unfold Qiq at h
  refine wxz ?_
  obtain⟨k1,hk_k1,h⟩:=jko h
  refine wjn (τ:=Unit) (fun t=>k1 t=some r) (fun _=>⟨mk 328 [(1,(Qc4 p1)),(2,(Qcz p2)),(3,.ref 0 2 0 0)],[(Qdn p0)]⟩) (fun t h=>?_) ?_
  ·subst hk_k1
   obtain⟨x3,hf2,h⟩:=bno h
   obtain⟨x5,hf4,h⟩:=bno h
   obtain⟨x7,hf6,h⟩:=bno h
   obtain⟨x9,hf8,h⟩:=bno h
   refine wx tbk [(1,rp [fu 17,(.tmp 46,(Qvk p0))] (Zng x3)),(3,rp [fu 18,(.tmp 48,(Qc4 p1))] (Znf x5)),(5,rp [fu 41,(.tmp 50,(Qcz p2))] (Zed x7)),(6,rp [fu 40,(.tmp 47,(Zng x3)),(.tmp 49,(Znf x5)),(.tmp 51,(Zed x7))] (.tup [(Qcs x9),I x9.2]))] ⟨apv Qw8 (Qkh N p0 _ hf2) (nlc (NLt.agg _ (nlc (nld Qan _) (nlc (nld Qab _) nl0))) nl0) (NLt.agg _ (nlc (nld Qan _) (nlc (nld Qab _) nl0))),apv Q0z (Qk4 N p1 _ hf4) (nlc (nld Qaj _) nl0) (nld Qaj _),apv Zhn (Qpl N p2 _ hf6) (nlc (nld Qag _) nl0) (nld Qag _),apv Zsg (Qwn N x3 x5 x7 _ hf8) (nlc (NLt.agg _ (nlc (nld Qan _) (nlc (nld Qab _) nl0))) (nlc (nld Qaj _) (nlc (nld Qag _) nl0))) (NLt.tup _ (nlc (nld Qcq _) (nlc nll nl0))),tv⟩ ?_
   obtain⟨x11,hf10,h⟩:=bno h
   obtain⟨x13,hf12,h⟩:=bno h
   obtain⟨x15,hf14,h⟩:=bno h
   obtain⟨x17,hf16,h⟩:=bno h
   refine wx tbk [(1,rp [fu 17,(.tmp 56,(Qvk p0))] (Zec x11)),(3,rp [fu 18,(.tmp 58,(Qc4 p1))] (.dat 1 ((x13:List Int).map Qav))),(5,rp [fu 41,(.tmp 60,(Qcz p2))] (Zeb x15)),(6,rp [fu 42,(.tmp 57,(Zec x11)),(.tmp 59,(.dat 1 ((x13:List Int).map Qav))),(.tmp 61,(Zeb x15))] (.tup [I x17.1,I x17.2.1,I x17.2.2]))] ⟨apv Qw8 (Qkh N p0 _ hf10) (nlc (NLt.agg _ (nlc (nld Qan _) (nlc (nld Qab _) nl0))) nl0) (NLt.agg _ (nlc (nld Qan _) (nlc (nld Qab _) nl0))),apv Q0z (Qk4 N p1 _ hf12) (nlc (nld Qaj _) nl0) (nld Qaj _),apv Zhn (Qpl N p2 _ hf14) (nlc (nld Qag _) nl0) (nld Qag _),apv Zsf (Qwl N x11 x13 x15 _ hf16) (nlc (NLt.agg _ (nlc (nld Qan _) (nlc (nld Qab _) nl0))) (nlc (nld Qaj _) (nlc (nld Qag _) nl0))) (NLt.tup _ (nlcc (nlc nll nl0))),tv⟩ ?_
   obtain⟨x19,hf18,h⟩:=bno h
   obtain⟨x21,hf20,h⟩:=bno h
   refine wx tbk [(1,rp [fu 17,(.tmp 67,(Qvk p0))] (Zea x19)),(2,rp [fu 47,(.tmp 68,(Zea x19))] (.tup [(Qb8 x21),I x21.2]))] ⟨apv Qw8 (Qkh N p0 _ hf18) (nlc (NLt.agg _ (nlc (nld Qan _) (nlc (nld Qab _) nl0))) nl0) (NLt.agg _ (nlc (nld Qan _) (nlc (nld Qab _) nl0))),apv Zhm (Qr8 N x19 _ hf20) (nlc (NLt.agg _ (nlc (nld Qan _) (nlc (nld Qab _) nl0))) nl0) (NLt.tup _ (nlc (nld Qaz _) (nlc nll nl0))),tv⟩ ?_
   obtain⟨k22,hk_k22,h⟩:=jko h
   refine wjn (τ:=Unit) (fun t=>k22 t=some r) (fun _=>⟨mk 328 [(1,(Qc4 p1)),(2,(Qcz p2)),(3,.ref 0 2 0 0),(7,(Qcs x9)),(8,I x9.2),(9,I x17.1),(12,(Qb8 x21))],[(Qdn p0)]⟩) (fun t h=>?_) ?_
   ·subst hk_k22
    refine wsq<|wxz ?_
    refine bfe h (fun hc23 h=>?_) fun hc23 h=>?_
    ·refine wft hc23 ?_
     refine bfe h (fun hb24 h=>?_) fun hb24 h=>?_
     ·refine hpre (A:=(Qvi x9)) ⟨asb hb24 (amv rfl),ag_ (alm (c:=Qf2) (l:=x9.1) (aln rfl underlying96 rfl)),tv⟩ fun q1_=>?_
      refine bfe h (fun hb25 h=>?_) fun hb25 h=>?_
      ·obtain⟨x27,hf26,h⟩:=bno h
       exact wx tbk (hcat (Qvi x9) [(7,rp [(.tmp 87,(B (((x9.1.length:Int)==0))))] (B true)),(8,rp [(.tmp 88,B true),fu 15] (B x27))]) (hap q1_ ⟨asb hb25 (amv rfl),ag_ (apv Qtq (Qhu 2000  _ hf26) nl0 nll),tv⟩)<|Qah<|Qac<|frb h
      ·exact wx tbk (hcat (Qvi x9) [(7,rp [(.tmp 87,(B (((x9.1.length:Int)==0))))] (B false))]) (hap q1_ ⟨asb hb25 (amv rfl),tv⟩)<|Qah<|Qac<|frb h
     ·exact wx tbk [(2,rp [(.tmp 82,(B ((x9.2==11))))] (B false))] ⟨asb hb24 (amv rfl),tv⟩<|Qah<|Qac<|frb h
    ·refine wfn hc23<|Qap<|thn<|wsq ?_
     refine wx tbk [(1,rp [(.tmp 91,(Qcs x9))] (I ((x9.1.length:Int)))),(3,rp [(.tmp 93,(Qb8 x21))] (I ((x21.1.length:Int))))] ⟨alm (c:=Qf2) (l:=x9.1) (aln rfl underlying96 rfl),alm (c:=Qa3) (l:=x21.1) (aln rfl underlying116 rfl),tv⟩ ?_
     refine bfe h (fun hc28 h=>?_) fun hc28 h=>?_
     ·exact wft hc28<|wxz<|Qah<|Qac<|frb h
     ·refine wfn hc28<|Qap<|thn ?_
      obtain⟨hm29,h⟩:=cko h
      refine wx tbk [(1,rp [(.tmp 96,(Qb8 x21))] (I ((x21.1.length:Int)))),(2,⟨[(.tmp 97,(I ((x21.1.length:Int)))),(.tmp 97,(I ((x21.1.length:Int))))],[(1,.unused)],(.own 1 8 (0) ((x21.1.length:Int).toNat)),[(1,(Zd9 x21))],false⟩)] ⟨alm (c:=Qa3) (l:=x21.1) (aln rfl underlying116 rfl),Qpz rfl underlying119 Zwh Zjn rfl (Qx7 hm29) rfl (Qx6 hm29) (Q9x hm29) (Q5q Qaw rfl),tv⟩ ?_
      obtain⟨k31,hk_k31,h⟩:=jko h
      refine wjn (τ:=(List Qas)) (fun t=>k31 t=some r) (fun y30=>⟨mk 328 [(1,(Qc4 p1)),(2,(Qcz p2)),(3,.ref 0 2 0 0),(9,I x17.1),(12,(Qb8 x21)),(14,(.own 1 8 (0) ((x21.1.length:Int).toNat)))],[(Qdn p0),(Qmf y30)]⟩) (fun y30 h=>?_) ?_
      ·subst hk_k31
       obtain⟨k32,hk_k32,h⟩:=jko h
       refine wjn (τ:=Unit) (fun t=>k32 t=some r) (fun _=>⟨mk 328 [(1,(Qc4 p1)),(2,(Qcz p2)),(3,.ref 0 2 0 0),(9,I x17.1)],[(Qdn p0)]⟩) (fun t h=>?_) ?_
       ·subst hk_k32
        refine wsq<|wxz ?_
        refine bfe h (fun hc33 h=>?_) fun hc33 h=>?_
        ·refine wft hc33 ?_
         refine bfe h (fun hb34 h=>?_) fun hb34 h=>?_
         ·obtain⟨x36,hf35,h⟩:=bno h
          exact wx tbk [(2,rp [(.tmp 296,(Qcz p2))] (I ((p2.length:Int)))),(4,rp [(.tmp 298,(B ((decide (x17.1<(p2.length:Int))))))] (B true)),(5,rp [(.tmp 299,B true),fu 15] (B x36))] ⟨alm (c:=Qaf) (l:=p2) (aln rfl underlying49 rfl),asb hb34 (amv rfl),ag_ (apv Qtq (Qhu 2000  _ hf35) nl0 nll),tv⟩<|Qah<|Qac<|frb h
         ·exact wx tbk [(2,rp [(.tmp 296,(Qcz p2))] (I ((p2.length:Int)))),(4,rp [(.tmp 298,(B ((decide (x17.1<(p2.length:Int))))))] (B false))] ⟨alm (c:=Qaf) (l:=p2) (aln rfl underlying49 rfl),asb hb34 (amv rfl),tv⟩<|Qah<|Qac<|frb h
        ·refine wfn hc33<|Qap<|thn ?_
         obtain⟨x38,hf37,h⟩:=bno h
         obtain⟨x40,hf39,h⟩:=bno h
         obtain⟨x41,hg42,h⟩:=bno h
         obtain⟨hi43,hj44⟩:=gsm hg42
         obtain⟨x46,hf45,h⟩:=bno h
         obtain⟨x48,hf47,h⟩:=bno h
         refine wxd tbk [(1,rp [fu 17,(.tmp 303,(Qvk p0))] (Q18 x38)),(3,rp [fu 18,(.tmp 305,(Qc4 p1))] (.dat 1 ((x40:List Int).map Qav))),(5,rp [(.tmp 307,(Qcz p2)),ci 0] (.dptr (Qaf (x41)) 0)),(7,rp [fu 19,(.tmp 309,(.dat 4 ((x41:List Qaa).map Qae)))] (Q17 x46)),(8,rp [fu 24,(.tmp 304,(Q18 x38)),(.tmp 306,(.dat 1 ((x40:List Int).map Qav))),(.tmp 310,(Q17 x46)),ci 30] (.tup [I x48.1,I x48.2.1,I x48.2.2]))] ⟨apv Qw8 (Qkh N p0 _ hf37) (nlc (NLt.agg _ (nlc (nld Qan _) (nlc (nld Qab _) nl0))) nl0) (NLt.agg _ (nlc (nld Qan _) (nlc (nld Qab _) nl0))),apv Q0z (Qk4 N p1 _ hf39) (nlc (nld Qaj _) nl0) (nld Qaj _),aid rfl underlying49 ti28 rfl rfl hi43 (mgt Qaf hj44) rfl,apv Q6d (Qkx N x41 _ hf45) (nlc (nld Qak _) nl0) (nld Qak _),apv Zsm (Q0f N x38 x40 x46 30 _ hf47) (nlc (NLt.agg _ (nlc (nld Qan _) (nlc (nld Qab _) nl0))) (nlc (nld Qaj _) (nlc (nld Qak _) (nlc nll nl0)))) (NLt.tup _ (nlcc (nlc nll nl0))),tv⟩ ?_
         refine bfe h (fun hb49 h=>?_) fun hb49 h=>?_
         ·refine hpre (A:=(Qrl x48)) ⟨asb hb49 (amv rfl),tv⟩ fun q2_=>?_
          refine bfe h (fun hb50 h=>?_) fun hb50 h=>?_
          ·refine bfe h (fun hb51 h=>?_) fun hb51 h=>?_
           ·obtain⟨x53,hf52,h⟩:=bno h
            exact wx tbk (hcat (Qrl x48) [(6,rp [(.tmp 320,(B ((x48.1==30))))] (B true)),(10,rp [(.tmp 324,(B ((x48.2.1==(-1)))))] (B true)),(11,rp [(.tmp 325,B true),fu 15] (B x53))]) (hap q2_ ⟨asb hb50 (amv rfl),asb hb51 (amv rfl),ag_ (apv Qtq (Qhu 2000  _ hf52) nl0 nll),tv⟩)<|Qah<|frb h
           ·exact wx tbk (hcat (Qrl x48) [(6,rp [(.tmp 320,(B ((x48.1==30))))] (B true)),(10,rp [(.tmp 324,(B ((x48.2.1==(-1)))))] (B false))]) (hap q2_ ⟨asb hb50 (amv rfl),asb hb51 (amv rfl),tv⟩)<|Qah<|frb h
          ·exact wx tbk (hcat (Qrl x48) [(6,rp [(.tmp 320,(B ((x48.1==30))))] (B false))]) (hap q2_ ⟨asb hb50 (amv rfl),tv⟩)<|Qah<|frb h
         ·exact wx tbk [(2,rp [(.tmp 316,(B ((x48.2.2==0))))] (B false))] ⟨asb hb49 (amv rfl),tv⟩<|Qah<|frb h
       ·skip
        refine wxz<|Qao ?_
        refine wmr (mto (n:=328) (l':=[(1,(Qc4 p1)),(2,(Qcz p2)),(3,.ref 0 2 0 0),(9,I x17.1),(12,(Qb8 x21)),(14,(.own 1 8 (0) ((x21.1.length:Int).toNat))),(25,I 0)]) (own':=[(Qdn p0),(Qmf y30)]) [(1,(Qc4 p1)),(2,(Qcz p2)),(3,.ref 0 2 0 0),(9,I x17.1),(12,(Qb8 x21)),(14,(.own 1 8 (0) ((x21.1.length:Int).toNat))),(25,I 0)] [0,1] [(Qdn p0),(Qmf y30)] hφ0 (pc (rnd Qaj) (pc (rnd Qag) (prr (pw (pc (rnd Qaz) (pc (.rn (Qa5 rfl)) (pw pn))))))) (qb (lc (rnd Qan) (lc (rnd Qab) ln)) (qc (spr Qcn) qn))) ?_
        refine Qb3 (τ:=Int) (fun n t=>Qc9 N x21 y30 k32 n t=some r) (fun y54=>⟨mk 328 [(1,(Qc4 p1)),(2,(Qcz p2)),(3,.ref 0 2 0 0),(9,I x17.1),(12,(Qb8 x21)),(14,(.own 1 8 (0) ((x21.1.length:Int).toNat))),(25,I y54)],[(Qdn p0),(Qmf y30)]⟩) (fun t h=>by rw[Qc9] at h;cases h) (fun n56 ih y54 h=>?_) N (0) h
        rw[Qc9] at h
        skip
        refine wsq<|wx tbk [(2,rp [(.tmp 282,(Qb8 x21))] (I ((x21.1.length:Int))))] ⟨alm (c:=Qa3) (l:=x21.1) (aln rfl underlying116 rfl),tv⟩ ?_
        refine bfe h (fun hc57 h=>?_) fun hc57 h=>?_
        ·refine wft hc57<|Qap<|thn<|wsq<|Qao ?_
         obtain⟨hi58,h⟩:=cko h
         obtain⟨hi58a,hi58b⟩:=Qcy hi58
         obtain⟨x59,hg60,h⟩:=bno h
         refine wx tbk [(2,rb [(.tmp 287,(.own 1 8 (0) ((x21.1.length:Int).toNat))),(.tmp 288,I y54)] [(1,(Qmf y30))] (.ref 1 8 (y54.toNat) 0)),(3,rb [(.tmp 289,(.ref 1 8 (y54.toNat) 0))] [(1,(Qmf y30))] (Q16 x59)),(4,rp [cb true,cb true,cb true,cb true,cb true,cb true,cb true,cb true] Q19),(5,rp [(.tmp 290,(Q16 x59)),(.tmp 291,Q19)] (B ((!(([x59.a0,x59.a1,x59.a2,x59.a3,x59.a4,x59.a5,x59.a6,x59.a7]:List Bool)==[true,true,true,true,true,true,true,true])))))] ⟨aio rfl underlying119 Qks (odt hi58a) (odt hi58b) (Nat.zero_add _),ald rfl Qks (by decide) (mgt Qaw hg60) (nle rfl) rfl,Qm7 (vs:=[B true,B true,B true,B true,B true,B true,B true,B true]) rfl underlying122 ti4 Zjn rfl (by rfl) rfl,Zbu (ls:=[x59.a0,x59.a1,x59.a2,x59.a3,x59.a4,x59.a5,x59.a6,x59.a7]) (ks:=[true,true,true,true,true,true,true,true]) rfl underlying122 underlying4 ti4 (by kernel_rfl) rfl rfl,tv⟩ ?_
         refine bfe h (fun hc61 h=>?_) fun hc61 h=>?_
         ·exact wft hc61<|wxz<|Qah<|Qaq<|Qac<|Qac<|Qaq<|Qac<|frb h
         ·exact wfn hc61<|Qap<|bln<|thn<|wxz1<|thn<|arm (mto (n:=328) [(1,(Qc4 p1)),(2,(Qcz p2)),(3,.ref 0 2 0 0),(9,I x17.1),(12,(Qb8 x21)),(14,(.own 1 8 (0) ((x21.1.length:Int).toNat))),(25,(I (w64 (y54+1))))] [0,1] [(Qdn p0),(Qmf y30)] hφ0 (pc (rnd Qaj) (pc (rnd Qag) (prr (pw (pc (rnd Qaz) (pc (.rn (Qa5 rfl)) (pw pn))))))) (qb (lc (rnd Qan) (lc (rnd Qab) ln)) (qc (spr Qcn) qn))) (ih (w64 (y54+1)) h)
        ·exact wfn hc57<|Qbl<|Qax<|Qax<|Qbk rfl<|thn<|⟨(),h,(mto (n:=328) [(1,(Qc4 p1)),(2,(Qcz p2)),(3,.ref 0 2 0 0),(9,I x17.1)] [0] [(Qdn p0)] hφ0 (pc (rnd Qaj) (pc (rnd Qag) (prr (pw pn)))) (qb (lc (rnd Qan) (lc (rnd Qab) ln)) qn))⟩
      ·skip
       refine wxz<|Qao ?_
       refine wmr (mto (n:=328) (l':=[(1,(Qc4 p1)),(2,(Qcz p2)),(3,.ref 0 2 0 0),(7,(Qcs x9)),(9,I x17.1),(12,(Qb8 x21)),(14,(.own 1 8 (0) ((x21.1.length:Int).toNat))),(15,I 0)]) (own':=[(Qdn p0),(.own 8 (((List.replicate (x21.1.length:Int).toNat (⟨false,false,false,false,false,false,false,false⟩:Qas)):List Qas).map Qaw))]) [(1,(Qc4 p1)),(2,(Qcz p2)),(3,.ref 0 2 0 0),(7,(Qcs x9)),(9,I x17.1),(12,(Qb8 x21)),(14,(.own 1 8 (0) ((x21.1.length:Int).toNat))),(15,I 0)] [0,1] [(Qdn p0),(Zd9 x21)] hφ0 (pc (rnd Qaj) (pc (rnd Qag) (prr (pc (rnd Qcq) (pw (pc (rnd Qaz) (pc (.rn (Qa5 rfl)) (pw pn)))))))) (qb (lc (rnd Qan) (lc (rnd Qab) ln)) (qc (spr Qcn) qn))) ?_
       refine Qb3 (τ:=Int×(List Qas)) (fun n t=>Qco N p0 p1 p2 x9 x17 x21 k31 n t.1 t.2=some r) (fun ⟨y62,y63⟩=>⟨mk 328 [(1,(Qc4 p1)),(2,(Qcz p2)),(3,.ref 0 2 0 0),(7,(Qcs x9)),(9,I x17.1),(12,(Qb8 x21)),(14,(.own 1 8 (0) ((x21.1.length:Int).toNat))),(15,I y62)],[(Qdn p0),(Qzs y63)]⟩) (fun t h=>by rw[Qco] at h;cases h) (fun n66 ih t h=>?_) N (0,List.replicate (x21.1.length:Int).toNat (⟨false,false,false,false,false,false,false,false⟩:Qas)) h
       obtain⟨y62,y63⟩:=t
       rw[Qco] at h
       skip
       refine wsq<|wx tbk [(2,rp [(.tmp 100,(Qcz p2))] (I ((p2.length:Int))))] ⟨alm (c:=Qaf) (l:=p2) (aln rfl underlying49 rfl),tv⟩ ?_
       refine bfe h (fun hc67 h=>?_) fun hc67 h=>?_
       ·refine wft hc67<|Qap<|thn ?_
        obtain⟨k69,hk_k69,h⟩:=jko h
        refine wjn (τ:=(List Qas)) (fun t=>k69 t=some r) (fun y68=>⟨mk 328 [(1,(Qc4 p1)),(2,(Qcz p2)),(3,.ref 0 2 0 0),(7,(Qcs x9)),(9,I x17.1),(12,(Qb8 x21)),(14,(.own 1 8 (0) ((x21.1.length:Int).toNat))),(15,I y62)],[(Qdn p0),(.own 8 ((y68:List Qas).map Qaw))]⟩) (fun y68 h=>?_) ?_
        ·subst hk_k69
         exact wxz1<|thn<|arm (mto (n:=328) [(1,(Qc4 p1)),(2,(Qcz p2)),(3,.ref 0 2 0 0),(7,(Qcs x9)),(9,I x17.1),(12,(Qb8 x21)),(14,(.own 1 8 (0) ((x21.1.length:Int).toNat))),(15,(I (w64 (y62+1))))] [0,1] [(Qdn p0),(.own 8 ((y68:List Qas).map Qaw))] hφ0 (pc (rnd Qaj) (pc (rnd Qag) (prr (pc (rnd Qcq) (pw (pc (rnd Qaz) (pc (.rn (Qa5 rfl)) (pw pn)))))))) (qb (lc (rnd Qan) (lc (rnd Qab) ln)) (qc (spr Qcn) qn))) (ih (w64 (y62+1),y68) h)
        ·skip
         refine Qao ?_
         obtain⟨x71,hf70,h⟩:=bno h
         obtain⟨x73,hf72,h⟩:=bno h
         obtain⟨x74,hg75,h⟩:=bno h
         obtain⟨hi76,hj77⟩:=gsm hg75
         obtain⟨x79,hf78,h⟩:=bno h
         obtain⟨x81,hf80,h⟩:=bno h
         refine wxd tbk [(1,rp [fu 17,(.tmp 106,(Qvk p0))] (Q15 x71)),(3,rp [fu 18,(.tmp 108,(Qc4 p1))] (.dat 1 ((x73:List Int).map Qav))),(6,rp [(.tmp 110,(Qcz p2)),(.tmp 111,I y62)] (.dptr (Qaf (x74)) 0)),(8,rp [fu 19,(.tmp 113,(.dat 4 ((x74:List Qaa).map Qae)))] (Q14 x79)),(9,rp [fu 16,(.tmp 107,(Q15 x71)),(.tmp 109,(.dat 1 ((x73:List Int).map Qav))),(.tmp 114,(Q14 x79))] (.tup [(.agg [(Qo1 x81),(.dat 4 ((x81.1.Lost:List Qa1).map Qbf)),(Qvj x81)]),I x81.2.1,I x81.2.2]))] ⟨apv Qw8 (Qkh N p0 _ hf70) (nlc (NLt.agg _ (nlc (nld Qan _) (nlc (nld Qab _) nl0))) nl0) (NLt.agg _ (nlc (nld Qan _) (nlc (nld Qab _) nl0))),apv Q0z (Qk4 N p1 _ hf72) (nlc (nld Qaj _) nl0) (nld Qaj _),aid rfl underlying49 ti28 rfl rfl hi76 (mgt Qaf hj77) rfl,apv Q6d (Qkx N x74 _ hf78) (nlc (nld Qak _) nl0) (nld Qak _),apv Zho (Qwm N x71 x73 x79 _ hf80) (nlc (NLt.agg _ (nlc (nld Qan _) (nlc (nld Qab _) nl0))) (nlc (nld Qaj _) (nlc (nld Qak _) nl0))) (NLt.tup _ (nlc (NLt.agg _ (nlc (nld Qag _) (nlc (nld Qay _) (nlc (nld Qaj _) nl0)))) (nlcc nl0))),tv⟩<|wsq<|wxz ?_
         refine bfe h (fun hc82 h=>?_) fun hc82 h=>?_
         ·exact wft hc82<|wxz<|Qah<|Qac<|Qaq<|Qac<|Qac<|Qaq<|Qac<|frb h
         ·refine wfn hc82<|Qap<|thn ?_
          obtain⟨k84,hk_k84,h⟩:=jko h
          refine wjn (τ:=(List Qas)) (fun t=>k84 t=some r) (fun y83=>⟨mk 328 [(1,(Qc4 p1)),(2,(Qcz p2)),(3,.ref 0 2 0 0),(7,(Qcs x9)),(9,I x17.1),(12,(Qb8 x21)),(14,(.own 1 8 (0) ((x21.1.length:Int).toNat))),(15,I y62),(16,.ref 2 3 0 0)],[(Qdn p0),(Qzt y83),(Qca x81)]⟩) (fun y83 h=>?_) ?_
          ·subst hk_k84
           refine bfe h (fun hb85 h=>?_) fun hb85 h=>?_
           ·obtain⟨x87,hf86,h⟩:=bno h
            refine wx tbk [(2,rp [(.tmp 273,(B ((x17.1==(-1)))))] (B true)),(6,rp [(.tmp 274,B true),fu 49,(.tmp 276,(Qvj x81)),(.tmp 277,(Qc4 p1))] (B x87))] ⟨asb hb85 (amv rfl),ag_ (apv Zsd (Qx2 N x81.1.State p1 _ hf86) (nlc (nld Qaj _) (nlc (nld Qaj _) nl0)) nll),tv⟩ ?_
            refine bfe h (fun hc88 h=>?_) fun hc88 h=>?_
            ·exact wft hc88<|wxz<|Qah<|Qaq<|Qac<|Qac<|Qaq<|Qac<|frb h
            ·exact wfn hc88<|Qap<|bln<|thn<|⟨(y83),h,(mto (n:=328) [(1,(Qc4 p1)),(2,(Qcz p2)),(3,.ref 0 2 0 0),(7,(Qcs x9)),(9,I x17.1),(12,(Qb8 x21)),(14,(.own 1 8 (0) ((x21.1.length:Int).toNat))),(15,I y62)] [0,1] [(Qdn p0),(Qzt y83)] hφ0 (pc (rnd Qaj) (pc (rnd Qag) (prr (pc (rnd Qcq) (pw (pc (rnd Qaz) (pc (.rn (Qa5 rfl)) (pw pn)))))))) (qb (lc (rnd Qan) (lc (rnd Qab) ln)) (qc (spr Qcn) qn)))⟩
           ·exact wx tbk [(2,rp [(.tmp 273,(B ((x17.1==(-1)))))] (B false))] ⟨asb hb85 (amv rfl),tv⟩<|wfa<|Qap<|bln<|thn<|⟨(y83),h,(mto (n:=328) [(1,(Qc4 p1)),(2,(Qcz p2)),(3,.ref 0 2 0 0),(7,(Qcs x9)),(9,I x17.1),(12,(Qb8 x21)),(14,(.own 1 8 (0) ((x21.1.length:Int).toNat))),(15,I y62)] [0,1] [(Qdn p0),(Qzt y83)] hφ0 (pc (rnd Qaj) (pc (rnd Qag) (prr (pc (rnd Qcq) (pw (pc (rnd Qaz) (pc (.rn (Qa5 rfl)) (pw pn)))))))) (qb (lc (rnd Qan) (lc (rnd Qab) ln)) (qc (spr Qcn) qn)))⟩
          ·skip
           refine wxz<|Qao ?_
           refine wmr (mto (n:=328) (l':=[(1,(Qc4 p1)),(2,(Qcz p2)),(3,.ref 0 2 0 0),(7,(Qcs x9)),(9,I x17.1),(12,(Qb8 x21)),(14,(.own 1 8 (0) ((x21.1.length:Int).toNat))),(15,I y62),(16,.ref 2 3 0 0),(19,I 0)]) (own':=[(Qdn p0),(Qzs y63),(Qca x81)]) [(1,(Qc4 p1)),(2,(Qcz p2)),(3,.ref 0 2 0 0),(7,(Qcs x9)),(9,I x17.1),(12,(Qb8 x21)),(14,(.own 1 8 (0) ((x21.1.length:Int).toNat))),(15,I y62),(16,.ref 2 3 0 0),(19,I 0)] [0,1,2] [(Qdn p0),(Qzs y63),(Qca x81)] hφ0 (pc (rnd Qaj) (pc (rnd Qag) (prr (pc (rnd Qcq) (pw (pc (rnd Qaz) (pc (.rn (Qa5 rfl)) (pw (prr (pw pn)))))))))) (qb (lc (rnd Qan) (lc (rnd Qab) ln)) (qc (spr Qcn) (qb (lc (rnd Qag) (lc (rnd Qay) (lc (rnd Qaj) ln))) qn)))) ?_
           refine Qb3 (τ:=Int×(List Qas)) (fun n t=>Qc8 N x9 x21 x81 k84 n t.1 t.2=some r) (fun ⟨y89,y90⟩=>⟨mk 328 [(1,(Qc4 p1)),(2,(Qcz p2)),(3,.ref 0 2 0 0),(7,(Qcs x9)),(9,I x17.1),(12,(Qb8 x21)),(14,(.own 1 8 (0) ((x21.1.length:Int).toNat))),(15,I y62),(16,.ref 2 3 0 0),(19,I y89)],[(Qdn p0),(Qh7 y90),(Qca x81)]⟩) (fun t h=>by rw[Qc8] at h;cases h) (fun n93 ih t h=>?_) N (0,y63) h
           obtain⟨y89,y90⟩:=t
           rw[Qc8] at h
           skip
           refine wsq<|wx tbk [(2,rp [(.tmp 122,(Qb8 x21))] (I ((x21.1.length:Int))))] ⟨alm (c:=Qa3) (l:=x21.1) (aln rfl underlying116 rfl),tv⟩ ?_
           refine bfe h (fun hc94 h=>?_) fun hc94 h=>?_
           ·refine wft hc94<|Qap<|thn ?_
            obtain⟨k96,hk_k96,h⟩:=jko h
            refine wjn (τ:=(List Qas)) (fun t=>k96 t=some r) (fun y95=>⟨mk 328 [(1,(Qc4 p1)),(2,(Qcz p2)),(3,.ref 0 2 0 0),(7,(Qcs x9)),(9,I x17.1),(12,(Qb8 x21)),(14,(.own 1 8 (0) ((x21.1.length:Int).toNat))),(15,I y62),(16,.ref 2 3 0 0),(19,I y89)],[(Qdn p0),(.own 8 ((y95:List Qas).map Qaw)),(Qca x81)]⟩) (fun y95 h=>?_) ?_
            ·subst hk_k96
             exact wxz1<|thn<|arm (mto (n:=328) [(1,(Qc4 p1)),(2,(Qcz p2)),(3,.ref 0 2 0 0),(7,(Qcs x9)),(9,I x17.1),(12,(Qb8 x21)),(14,(.own 1 8 (0) ((x21.1.length:Int).toNat))),(15,I y62),(16,.ref 2 3 0 0),(19,(I (w64 (y89+1))))] [0,1,2] [(Qdn p0),(.own 8 ((y95:List Qas).map Qaw)),(Qca x81)] hφ0 (pc (rnd Qaj) (pc (rnd Qag) (prr (pc (rnd Qcq) (pw (pc (rnd Qaz) (pc (.rn (Qa5 rfl)) (pw (prr (pw pn)))))))))) (qb (lc (rnd Qan) (lc (rnd Qab) ln)) (qc (spr Qcn) (qb (lc (rnd Qag) (lc (rnd Qay) (lc (rnd Qaj) ln))) qn)))) (ih (w64 (y89+1),y95) h)
            ·skip
             refine Qao ?_
             obtain⟨x97,hg98,h⟩:=bno h
             obtain⟨hi99,hj100⟩:=gsm hg98
             refine wx tbk [(2,rp [(.tmp 127,(Qb8 x21)),(.tmp 128,I y89)] (.dptr (Qa3 (x97)) 0))] ⟨aid rfl underlying116 Qry rfl rfl hi99 (mgt Qa3 hj100) rfl,tv⟩ ?_
             obtain⟨k101,hk_k101,h⟩:=jko h
             refine wjn (τ:=Unit) (fun t=>k101 t=some r) (fun _=>⟨mk 328 [(1,(Qc4 p1)),(2,(Qcz p2)),(3,.ref 0 2 0 0),(7,(Qcs x9)),(9,I x17.1),(12,(Qb8 x21)),(14,(.own 1 8 (0) ((x21.1.length:Int).toNat))),(15,I y62),(16,.ref 2 3 0 0),(19,I y89),(20,.ref 3 2 0 0)],[(Qdn p0),(Qh7 y90),(Qca x81),(.own 2 [[I x97.Element,I x97.Outlet]])]⟩) (fun t h=>?_) ?_
             ·subst hk_k101
              obtain⟨x102,hg103,h⟩:=bno h
              obtain⟨hi104,hj105⟩:=gsm hg103
              obtain⟨x106,hg107,h⟩:=bno h
              obtain⟨hi108,hj109⟩:=gsm hg107
              obtain⟨x110,hg111,h⟩:=bno h
              obtain⟨hi112,hj113⟩:=gsm hg111
              refine wxd tbk [(4,rp [(.tmp 160,(Qo1 x81)),(.tmp 162,I x97.Element)] (.dptr (Qaf (x102)) 0)),(8,rp [(.tmp 164,(.dat 4 ((x102:List Qaa).map Qae))),(.tmp 166,I x97.Outlet)] (.dptr (Qae (x106)) 0)),(12,rp [(.tmp 169,(Qcs x9)),(.tmp 170,I y89)] (.dptr (Qf2 (x110)) 0))] ⟨aid rfl underlying31 ti45 rfl rfl hi104 (mgt Qaf hj105) rfl,aid rfl underlying45 ti63 rfl rfl hi108 (mgt Qae hj109) rfl,aid rfl underlying96 Zqz rfl rfl hi112 (mgt Qf2 hj113) rfl,tv⟩ ?_
              obtain⟨k114,hk_k114,h⟩:=jko h
              refine wjn (τ:=Unit) (fun t=>k114 t=some r) (fun _=>⟨mk 328 [(1,(Qc4 p1)),(2,(Qcz p2)),(3,.ref 0 2 0 0),(7,(Qcs x9)),(9,I x17.1),(12,(Qb8 x21)),(14,(.own 1 8 (0) ((x21.1.length:Int).toNat))),(15,I y62),(16,.ref 2 3 0 0),(19,I y89),(21,.ref 3 4 0 0),(22,.ref 4 8 0 0)],[(Qdn p0),(Qh7 y90),(Qca x81),(Q13 x106),(Q12 x110)]⟩) (fun t h=>?_) ?_
              ·subst hk_k114
               refine wx tbk [(48,rp [(.tmp 208,(B ((x106.Mass==x110.Mass.Lo)))),(.tmp 214,(B ((x106.Mass==x110.Mass.Hi)))),(.tmp 220,(B ((x106.Heat==x110.Heat.Lo)))),(.tmp 226,(B ((x106.Heat==x110.Heat.Hi)))),(.tmp 232,(B ((x106.Silica==x110.Silica.Lo)))),(.tmp 238,(B ((x106.Silica==x110.Silica.Hi)))),(.tmp 244,(B ((x106.Gas==x110.Gas.Lo)))),(.tmp 250,(B ((x106.Gas==x110.Gas.Hi))))] (.agg [(B ((x106.Mass==x110.Mass.Lo))),(B ((x106.Mass==x110.Mass.Hi))),(B ((x106.Heat==x110.Heat.Lo))),(B ((x106.Heat==x110.Heat.Hi))),(B ((x106.Silica==x110.Silica.Lo))),(B ((x106.Silica==x110.Silica.Hi))),(B ((x106.Gas==x110.Gas.Lo))),(B ((x106.Gas==x110.Gas.Hi)))]))] ⟨Qm7 (vs:=[(B ((x106.Mass==x110.Mass.Lo))),(B ((x106.Mass==x110.Mass.Hi))),(B ((x106.Heat==x110.Heat.Lo))),(B ((x106.Heat==x110.Heat.Hi))),(B ((x106.Silica==x110.Silica.Lo))),(B ((x106.Silica==x110.Silica.Hi))),(B ((x106.Gas==x110.Gas.Lo))),(B ((x106.Gas==x110.Gas.Hi)))]) rfl underlying122 ti4 Zjn rfl (by rfl) rfl,tv⟩<|wxz<|Qao<|Q08 17 ?_
               obtain⟨k116,hk_k116,h⟩:=jko h
               refine Qiz (τ:=(List Qas)) (fun t=>k116 t=some r) (fun y115=>⟨mk 328 [(1,(Qc4 p1)),(2,(Qcz p2)),(3,.ref 0 2 0 0),(7,(Qcs x9)),(9,I x17.1),(12,(Qb8 x21)),(14,(.own 1 8 (0) ((x21.1.length:Int).toNat))),(15,I y62),(16,.ref 2 3 0 0),(19,I y89),(23,.ref 3 8 0 0),(24,I 1)],[(Qdn p0),(Qjg y115),(Qca x81),(Qcx x106 x110)]⟩) (fun y115 h=>?_) ?_
               ·subst hk_k116
                obtain⟨k118,hk_k118,h⟩:=jko h
                refine Qiz (τ:=(List Qas)) (fun t=>k118 t=some r) (fun y117=>⟨mk 328 [(1,(Qc4 p1)),(2,(Qcz p2)),(3,.ref 0 2 0 0),(7,(Qcs x9)),(9,I x17.1),(12,(Qb8 x21)),(14,(.own 1 8 (0) ((x21.1.length:Int).toNat))),(15,I y62),(16,.ref 2 3 0 0),(19,I y89),(23,.ref 3 8 0 0),(24,I 2)],[(Qdn p0),(Qjf y117),(Qca x81),(Qcx x106 x110)]⟩) (fun y117 h=>?_) ?_
                ·subst hk_k118
                 obtain⟨k120,hk_k120,h⟩:=jko h
                 refine Qiz (τ:=(List Qas)) (fun t=>k120 t=some r) (fun y119=>⟨mk 328 [(1,(Qc4 p1)),(2,(Qcz p2)),(3,.ref 0 2 0 0),(7,(Qcs x9)),(9,I x17.1),(12,(Qb8 x21)),(14,(.own 1 8 (0) ((x21.1.length:Int).toNat))),(15,I y62),(16,.ref 2 3 0 0),(19,I y89),(23,.ref 3 8 0 0),(24,I 3)],[(Qdn p0),(Qje y119),(Qca x81),(Qcx x106 x110)]⟩) (fun y119 h=>?_) ?_
                 ·subst hk_k120
                  obtain⟨k122,hk_k122,h⟩:=jko h
                  refine Qiz (τ:=(List Qas)) (fun t=>k122 t=some r) (fun y121=>⟨mk 328 [(1,(Qc4 p1)),(2,(Qcz p2)),(3,.ref 0 2 0 0),(7,(Qcs x9)),(9,I x17.1),(12,(Qb8 x21)),(14,(.own 1 8 (0) ((x21.1.length:Int).toNat))),(15,I y62),(16,.ref 2 3 0 0),(19,I y89),(23,.ref 3 8 0 0),(24,I 4)],[(Qdn p0),(Qjd y121),(Qca x81),(Qcx x106 x110)]⟩) (fun y121 h=>?_) ?_
                  ·subst hk_k122
                   obtain⟨k124,hk_k124,h⟩:=jko h
                   refine Qiz (τ:=(List Qas)) (fun t=>k124 t=some r) (fun y123=>⟨mk 328 [(1,(Qc4 p1)),(2,(Qcz p2)),(3,.ref 0 2 0 0),(7,(Qcs x9)),(9,I x17.1),(12,(Qb8 x21)),(14,(.own 1 8 (0) ((x21.1.length:Int).toNat))),(15,I y62),(16,.ref 2 3 0 0),(19,I y89),(23,.ref 3 8 0 0),(24,I 5)],[(Qdn p0),(Qjc y123),(Qca x81),(Qcx x106 x110)]⟩) (fun y123 h=>?_) ?_
                   ·subst hk_k124
                    obtain⟨k126,hk_k126,h⟩:=jko h
                    refine Qiz (τ:=(List Qas)) (fun t=>k126 t=some r) (fun y125=>⟨mk 328 [(1,(Qc4 p1)),(2,(Qcz p2)),(3,.ref 0 2 0 0),(7,(Qcs x9)),(9,I x17.1),(12,(Qb8 x21)),(14,(.own 1 8 (0) ((x21.1.length:Int).toNat))),(15,I y62),(16,.ref 2 3 0 0),(19,I y89),(23,.ref 3 8 0 0),(24,I 6)],[(Qdn p0),(Qjb y125),(Qca x81),(Qcx x106 x110)]⟩) (fun y125 h=>?_) ?_
                    ·subst hk_k126
                     obtain⟨k128,hk_k128,h⟩:=jko h
                     refine Qiz (τ:=(List Qas)) (fun t=>k128 t=some r) (fun y127=>⟨mk 328 [(1,(Qc4 p1)),(2,(Qcz p2)),(3,.ref 0 2 0 0),(7,(Qcs x9)),(9,I x17.1),(12,(Qb8 x21)),(14,(.own 1 8 (0) ((x21.1.length:Int).toNat))),(15,I y62),(16,.ref 2 3 0 0),(19,I y89),(23,.ref 3 8 0 0),(24,I 7)],[(Qdn p0),(Qja y127),(Qca x81),(Qcx x106 x110)]⟩) (fun y127 h=>?_) ?_
                     ·subst hk_k128
                      obtain⟨k130,hk_k130,h⟩:=jko h
                      refine Qiz (τ:=(List Qas)) (fun t=>k130 t=some r) (fun y129=>⟨mk 328 [(1,(Qc4 p1)),(2,(Qcz p2)),(3,.ref 0 2 0 0),(7,(Qcs x9)),(9,I x17.1),(12,(Qb8 x21)),(14,(.own 1 8 (0) ((x21.1.length:Int).toNat))),(15,I y62),(16,.ref 2 3 0 0),(19,I y89),(23,.ref 3 8 0 0),(24,I 8)],[(Qdn p0),(.own 8 ((y129:List Qas).map Qaw)),(Qca x81),(Qcx x106 x110)]⟩) (fun y129 h=>?_) ?_
                      ·subst hk_k130
                       refine Que<|wsq<|wxz<|wfa<|Qbl<|Qax<|Qax<|Qbk rfl<|bln<|thn ?_
                       exact⟨(y129),h,(mto (n:=328) [(1,(Qc4 p1)),(2,(Qcz p2)),(3,.ref 0 2 0 0),(7,(Qcs x9)),(9,I x17.1),(12,(Qb8 x21)),(14,(.own 1 8 (0) ((x21.1.length:Int).toNat))),(15,I y62),(16,.ref 2 3 0 0),(19,I y89)] [0,1,2] [(Qdn p0),(.own 8 ((y129:List Qas).map Qaw)),(Qca x81)] hφ0 (pc (rnd Qaj) (pc (rnd Qag) (prr (pc (rnd Qcq) (pw (pc (rnd Qaz) (pc (.rn (Qa5 rfl)) (pw (prr (pw pn)))))))))) (qb (lc (rnd Qan) (lc (rnd Qab) ln)) (qc (spr Qcn) (qb (lc (rnd Qag) (lc (rnd Qay) (lc (rnd Qaj) ln))) qn))))⟩
                      ·skip
                       refine wsq<|wxz<|wtr<|Qap<|thn<|wsq<|Qao ?_
                       obtain⟨hi131,h⟩:=cko h
                       obtain⟨hi131a,hi131b⟩:=Qcy hi131
                       obtain⟨x132,hg133,h⟩:=bno h
                       refine Q3m (A:=(Qvh x21 y89 y127 x132)) ⟨aio rfl underlying119 Qks (odt hi131a) (odt hi131b) (Nat.zero_add _),Qbw rfl underlying122 ti4 (by decide) (by decide) rfl,ald rfl ti4 (by decide) (mgt Qaw hg133) (nle rfl) rfl,tv⟩ fun q3_=>?_
                       refine bfe h (fun hb134 h=>?_) fun hb134 h=>?_
                       ·obtain⟨hi135,h⟩:=cko h
                        obtain⟨hi135a,hi135b⟩:=Qcy hi135
                        obtain⟨x136,hg137,h⟩:=bno h
                        refine wy1 tbk (hcat (Qvh x21 y89 y127 x132) [(9,rp [(.tmp 264,B x132.a7)] (B true)),(14,rb [(.tmp 256,(.own 1 8 (0) ((x21.1.length:Int).toNat))),(.tmp 257,I y89)] [(1,(Qja y127))] (.ref 1 8 (y89.toNat) 0)),(15,rb [(.tmp 270,(.ref 1 8 (y89.toNat) 0)),(.tmp 258,I 7)] [(1,(Qja y127))] (.ref 1 8 (y89.toNat) 7)),(16,⟨[(.tmp 271,(.ref 1 8 (y89.toNat) 7)),(.tmp 269,B true)],[(1,(Qja y127))],.any,[(1,(Q11 y127 y89 x136))],false⟩)]) (hap q3_ ⟨asb hb134 (amv rfl),aio rfl underlying119 Qks (odt hi135a) (odt hi135b) (Nat.zero_add _),Qbw rfl underlying122 ti4 (by decide) (by decide) rfl,ast rfl ti4 (by rfl) (mgt Qaw hg137) (nle rfl) (Qeq Qaw rfl),tv⟩)<|bln<|thn<|wxz1<|thn ?_
                        exact⟨(y127.set y89.toNat (⟨x136.a0,x136.a1,x136.a2,x136.a3,x136.a4,x136.a5,x136.a6,true⟩:Qas)),h,(mto (n:=328) [(1,(Qc4 p1)),(2,(Qcz p2)),(3,.ref 0 2 0 0),(7,(Qcs x9)),(9,I x17.1),(12,(Qb8 x21)),(14,(.own 1 8 (0) ((x21.1.length:Int).toNat))),(15,I y62),(16,.ref 2 3 0 0),(19,I y89),(23,.ref 3 8 0 0),(24,I 8)] [0,1,2,3] [(Qdn p0),(Q11 y127 y89 x136),(Qca x81),(Qcx x106 x110)] hφ0 (pc (rnd Qaj) (pc (rnd Qag) (prr (pc (rnd Qcq) (pw (pc (rnd Qaz) (pc (.rn (Qa5 rfl)) (pw (prr (pw (prr (pw pn)))))))))))) (qb (lc (rnd Qan) (lc (rnd Qab) ln)) (qc (spr Qcn) (qb (lc (rnd Qag) (lc (rnd Qay) (lc (rnd Qaj) ln))) (qb (lcc (lcc (lcc (lcc ln)))) qn)))))⟩
                       ·obtain⟨hi138,h⟩:=cko h
                        obtain⟨hi138a,hi138b⟩:=Qcy hi138
                        obtain⟨x139,hg140,h⟩:=bno h
                        refine wy1 tbk (hcat (Qvh x21 y89 y127 x132) [(9,rp [(.tmp 264,B x132.a7)] (B false)),(11,rb [(.tmp 265,B false),(.tmp 23,.ref 3 8 0 0),(.tmp 266,I 7)] [(3,(Qcx x106 x110))] (.ref 3 8 0 7)),(14,rb [(.tmp 256,(.own 1 8 (0) ((x21.1.length:Int).toNat))),(.tmp 257,I y89)] [(1,(Qja y127))] (.ref 1 8 (y89.toNat) 0)),(15,rb [(.tmp 270,(.ref 1 8 (y89.toNat) 0)),(.tmp 258,I 7)] [(1,(Qja y127))] (.ref 1 8 (y89.toNat) 7)),(16,⟨[(.tmp 271,(.ref 1 8 (y89.toNat) 7)),(.tmp 269,(B ((x106.Gas==x110.Gas.Hi))))],[(1,(Qja y127))],.any,[(1,(.own 8 ((y127.set y89.toNat (⟨x139.a0,x139.a1,x139.a2,x139.a3,x139.a4,x139.a5,x139.a6,(x106.Gas==x110.Gas.Hi)⟩:Qas):List Qas).map Qaw)))],false⟩)]) (hap q3_ ⟨asb hb134 (amv rfl),ag_ (Qbw rfl underlying122 ti4 (by decide) (by decide) rfl),aio rfl underlying119 Qks (odt hi138a) (odt hi138b) (Nat.zero_add _),Qbw rfl underlying122 ti4 (by decide) (by decide) rfl,ast rfl ti4 (by rfl) (mgt Qaw hg140) (nle rfl) (Qeq Qaw rfl),tv⟩)<|bln<|thn<|wxz1<|thn ?_
                        exact⟨(y127.set y89.toNat (⟨x139.a0,x139.a1,x139.a2,x139.a3,x139.a4,x139.a5,x139.a6,(x106.Gas==x110.Gas.Hi)⟩:Qas)),h,(mto (n:=328) [(1,(Qc4 p1)),(2,(Qcz p2)),(3,.ref 0 2 0 0),(7,(Qcs x9)),(9,I x17.1),(12,(Qb8 x21)),(14,(.own 1 8 (0) ((x21.1.length:Int).toNat))),(15,I y62),(16,.ref 2 3 0 0),(19,I y89),(23,.ref 3 8 0 0),(24,I 8)] [0,1,2,3] [(Qdn p0),(.own 8 ((y127.set y89.toNat (⟨x139.a0,x139.a1,x139.a2,x139.a3,x139.a4,x139.a5,x139.a6,(x106.Gas==x110.Gas.Hi)⟩:Qas):List Qas).map Qaw)),(Qca x81),(Qcx x106 x110)] hφ0 (pc (rnd Qaj) (pc (rnd Qag) (prr (pc (rnd Qcq) (pw (pc (rnd Qaz) (pc (.rn (Qa5 rfl)) (pw (prr (pw (prr (pw pn)))))))))))) (qb (lc (rnd Qan) (lc (rnd Qab) ln)) (qc (spr Qcn) (qb (lc (rnd Qag) (lc (rnd Qay) (lc (rnd Qaj) ln))) (qb (lcc (lcc (lcc (lcc ln)))) qn)))))⟩
                     ·skip
                      refine wsq<|wxz<|wtr<|Qap<|thn<|wsq<|Qao ?_
                      obtain⟨hi141,h⟩:=cko h
                      obtain⟨hi141a,hi141b⟩:=Qcy hi141
                      obtain⟨x142,hg143,h⟩:=bno h
                      refine Q3m (A:=(Qvg x21 y89 y125 x142)) ⟨aio rfl underlying119 Qks (odt hi141a) (odt hi141b) (Nat.zero_add _),Qbw rfl underlying122 ti4 (by decide) (by decide) rfl,ald rfl ti4 (by decide) (mgt Qaw hg143) (nle rfl) rfl,tv⟩ fun q4_=>?_
                      refine bfe h (fun hb144 h=>?_) fun hb144 h=>?_
                      ·obtain⟨hi145,h⟩:=cko h
                       obtain⟨hi145a,hi145b⟩:=Qcy hi145
                       obtain⟨x146,hg147,h⟩:=bno h
                       refine wy1 tbk (hcat (Qvg x21 y89 y125 x142) [(9,rp [(.tmp 264,B x142.a6)] (B true)),(14,rb [(.tmp 256,(.own 1 8 (0) ((x21.1.length:Int).toNat))),(.tmp 257,I y89)] [(1,(Qjb y125))] (.ref 1 8 (y89.toNat) 0)),(15,rb [(.tmp 270,(.ref 1 8 (y89.toNat) 0)),(.tmp 258,I 6)] [(1,(Qjb y125))] (.ref 1 8 (y89.toNat) 6)),(16,⟨[(.tmp 271,(.ref 1 8 (y89.toNat) 6)),(.tmp 269,B true)],[(1,(Qjb y125))],.any,[(1,(Q10 y125 y89 x146))],false⟩)]) (hap q4_ ⟨asb hb144 (amv rfl),aio rfl underlying119 Qks (odt hi145a) (odt hi145b) (Nat.zero_add _),Qbw rfl underlying122 ti4 (by decide) (by decide) rfl,ast rfl ti4 (by rfl) (mgt Qaw hg147) (nle rfl) (Qeq Qaw rfl),tv⟩)<|bln<|thn<|wxz1<|thn ?_
                       exact⟨(y125.set y89.toNat (⟨x146.a0,x146.a1,x146.a2,x146.a3,x146.a4,x146.a5,true,x146.a7⟩:Qas)),h,(mto (n:=328) [(1,(Qc4 p1)),(2,(Qcz p2)),(3,.ref 0 2 0 0),(7,(Qcs x9)),(9,I x17.1),(12,(Qb8 x21)),(14,(.own 1 8 (0) ((x21.1.length:Int).toNat))),(15,I y62),(16,.ref 2 3 0 0),(19,I y89),(23,.ref 3 8 0 0),(24,I 7)] [0,1,2,3] [(Qdn p0),(Q10 y125 y89 x146),(Qca x81),(Qcx x106 x110)] hφ0 (pc (rnd Qaj) (pc (rnd Qag) (prr (pc (rnd Qcq) (pw (pc (rnd Qaz) (pc (.rn (Qa5 rfl)) (pw (prr (pw (prr (pw pn)))))))))))) (qb (lc (rnd Qan) (lc (rnd Qab) ln)) (qc (spr Qcn) (qb (lc (rnd Qag) (lc (rnd Qay) (lc (rnd Qaj) ln))) (qb (lcc (lcc (lcc (lcc ln)))) qn)))))⟩
                      ·obtain⟨hi148,h⟩:=cko h
                       obtain⟨hi148a,hi148b⟩:=Qcy hi148
                       obtain⟨x149,hg150,h⟩:=bno h
                       refine wy1 tbk (hcat (Qvg x21 y89 y125 x142) [(9,rp [(.tmp 264,B x142.a6)] (B false)),(11,rb [(.tmp 265,B false),(.tmp 23,.ref 3 8 0 0),(.tmp 266,I 6)] [(3,(Qcx x106 x110))] (.ref 3 8 0 6)),(14,rb [(.tmp 256,(.own 1 8 (0) ((x21.1.length:Int).toNat))),(.tmp 257,I y89)] [(1,(Qjb y125))] (.ref 1 8 (y89.toNat) 0)),(15,rb [(.tmp 270,(.ref 1 8 (y89.toNat) 0)),(.tmp 258,I 6)] [(1,(Qjb y125))] (.ref 1 8 (y89.toNat) 6)),(16,⟨[(.tmp 271,(.ref 1 8 (y89.toNat) 6)),(.tmp 269,(B ((x106.Gas==x110.Gas.Lo))))],[(1,(Qjb y125))],.any,[(1,(.own 8 ((y125.set y89.toNat (⟨x149.a0,x149.a1,x149.a2,x149.a3,x149.a4,x149.a5,(x106.Gas==x110.Gas.Lo),x149.a7⟩:Qas):List Qas).map Qaw)))],false⟩)]) (hap q4_ ⟨asb hb144 (amv rfl),ag_ (Qbw rfl underlying122 ti4 (by decide) (by decide) rfl),aio rfl underlying119 Qks (odt hi148a) (odt hi148b) (Nat.zero_add _),Qbw rfl underlying122 ti4 (by decide) (by decide) rfl,ast rfl ti4 (by rfl) (mgt Qaw hg150) (nle rfl) (Qeq Qaw rfl),tv⟩)<|bln<|thn<|wxz1<|thn ?_
                       exact⟨(y125.set y89.toNat (⟨x149.a0,x149.a1,x149.a2,x149.a3,x149.a4,x149.a5,(x106.Gas==x110.Gas.Lo),x149.a7⟩:Qas)),h,(mto (n:=328) [(1,(Qc4 p1)),(2,(Qcz p2)),(3,.ref 0 2 0 0),(7,(Qcs x9)),(9,I x17.1),(12,(Qb8 x21)),(14,(.own 1 8 (0) ((x21.1.length:Int).toNat))),(15,I y62),(16,.ref 2 3 0 0),(19,I y89),(23,.ref 3 8 0 0),(24,I 7)] [0,1,2,3] [(Qdn p0),(.own 8 ((y125.set y89.toNat (⟨x149.a0,x149.a1,x149.a2,x149.a3,x149.a4,x149.a5,(x106.Gas==x110.Gas.Lo),x149.a7⟩:Qas):List Qas).map Qaw)),(Qca x81),(Qcx x106 x110)] hφ0 (pc (rnd Qaj) (pc (rnd Qag) (prr (pc (rnd Qcq) (pw (pc (rnd Qaz) (pc (.rn (Qa5 rfl)) (pw (prr (pw (prr (pw pn)))))))))))) (qb (lc (rnd Qan) (lc (rnd Qab) ln)) (qc (spr Qcn) (qb (lc (rnd Qag) (lc (rnd Qay) (lc (rnd Qaj) ln))) (qb (lcc (lcc (lcc (lcc ln)))) qn)))))⟩
                    ·skip
                     refine wsq<|wxz<|wtr<|Qap<|thn<|wsq<|Qao ?_
                     obtain⟨hi151,h⟩:=cko h
                     obtain⟨hi151a,hi151b⟩:=Qcy hi151
                     obtain⟨x152,hg153,h⟩:=bno h
                     refine Q3m (A:=(Qvf x21 y89 y123 x152)) ⟨aio rfl underlying119 Qks (odt hi151a) (odt hi151b) (Nat.zero_add _),Qbw rfl underlying122 ti4 (by decide) (by decide) rfl,ald rfl ti4 (by decide) (mgt Qaw hg153) (nle rfl) rfl,tv⟩ fun q5_=>?_
                     refine bfe h (fun hb154 h=>?_) fun hb154 h=>?_
                     ·obtain⟨hi155,h⟩:=cko h
                      obtain⟨hi155a,hi155b⟩:=Qcy hi155
                      obtain⟨x156,hg157,h⟩:=bno h
                      refine wy1 tbk (hcat (Qvf x21 y89 y123 x152) [(9,rp [(.tmp 264,B x152.a5)] (B true)),(14,rb [(.tmp 256,(.own 1 8 (0) ((x21.1.length:Int).toNat))),(.tmp 257,I y89)] [(1,(Qjc y123))] (.ref 1 8 (y89.toNat) 0)),(15,rb [(.tmp 270,(.ref 1 8 (y89.toNat) 0)),(.tmp 258,I 5)] [(1,(Qjc y123))] (.ref 1 8 (y89.toNat) 5)),(16,⟨[(.tmp 271,(.ref 1 8 (y89.toNat) 5)),(.tmp 269,B true)],[(1,(Qjc y123))],.any,[(1,(Q1z y123 y89 x156))],false⟩)]) (hap q5_ ⟨asb hb154 (amv rfl),aio rfl underlying119 Qks (odt hi155a) (odt hi155b) (Nat.zero_add _),Qbw rfl underlying122 ti4 (by decide) (by decide) rfl,ast rfl ti4 (by rfl) (mgt Qaw hg157) (nle rfl) (Qeq Qaw rfl),tv⟩)<|bln<|thn<|wxz1<|thn ?_
                      exact⟨(y123.set y89.toNat (⟨x156.a0,x156.a1,x156.a2,x156.a3,x156.a4,true,x156.a6,x156.a7⟩:Qas)),h,(mto (n:=328) [(1,(Qc4 p1)),(2,(Qcz p2)),(3,.ref 0 2 0 0),(7,(Qcs x9)),(9,I x17.1),(12,(Qb8 x21)),(14,(.own 1 8 (0) ((x21.1.length:Int).toNat))),(15,I y62),(16,.ref 2 3 0 0),(19,I y89),(23,.ref 3 8 0 0),(24,I 6)] [0,1,2,3] [(Qdn p0),(Q1z y123 y89 x156),(Qca x81),(Qcx x106 x110)] hφ0 (pc (rnd Qaj) (pc (rnd Qag) (prr (pc (rnd Qcq) (pw (pc (rnd Qaz) (pc (.rn (Qa5 rfl)) (pw (prr (pw (prr (pw pn)))))))))))) (qb (lc (rnd Qan) (lc (rnd Qab) ln)) (qc (spr Qcn) (qb (lc (rnd Qag) (lc (rnd Qay) (lc (rnd Qaj) ln))) (qb (lcc (lcc (lcc (lcc ln)))) qn)))))⟩
                     ·obtain⟨hi158,h⟩:=cko h
                      obtain⟨hi158a,hi158b⟩:=Qcy hi158
                      obtain⟨x159,hg160,h⟩:=bno h
                      refine wy1 tbk (hcat (Qvf x21 y89 y123 x152) [(9,rp [(.tmp 264,B x152.a5)] (B false)),(11,rb [(.tmp 265,B false),(.tmp 23,.ref 3 8 0 0),(.tmp 266,I 5)] [(3,(Qcx x106 x110))] (.ref 3 8 0 5)),(14,rb [(.tmp 256,(.own 1 8 (0) ((x21.1.length:Int).toNat))),(.tmp 257,I y89)] [(1,(Qjc y123))] (.ref 1 8 (y89.toNat) 0)),(15,rb [(.tmp 270,(.ref 1 8 (y89.toNat) 0)),(.tmp 258,I 5)] [(1,(Qjc y123))] (.ref 1 8 (y89.toNat) 5)),(16,⟨[(.tmp 271,(.ref 1 8 (y89.toNat) 5)),(.tmp 269,(B ((x106.Silica==x110.Silica.Hi))))],[(1,(Qjc y123))],.any,[(1,(.own 8 ((y123.set y89.toNat (⟨x159.a0,x159.a1,x159.a2,x159.a3,x159.a4,(x106.Silica==x110.Silica.Hi),x159.a6,x159.a7⟩:Qas):List Qas).map Qaw)))],false⟩)]) (hap q5_ ⟨asb hb154 (amv rfl),ag_ (Qbw rfl underlying122 ti4 (by decide) (by decide) rfl),aio rfl underlying119 Qks (odt hi158a) (odt hi158b) (Nat.zero_add _),Qbw rfl underlying122 ti4 (by decide) (by decide) rfl,ast rfl ti4 (by rfl) (mgt Qaw hg160) (nle rfl) (Qeq Qaw rfl),tv⟩)<|bln<|thn<|wxz1<|thn ?_
                      exact⟨(y123.set y89.toNat (⟨x159.a0,x159.a1,x159.a2,x159.a3,x159.a4,(x106.Silica==x110.Silica.Hi),x159.a6,x159.a7⟩:Qas)),h,(mto (n:=328) [(1,(Qc4 p1)),(2,(Qcz p2)),(3,.ref 0 2 0 0),(7,(Qcs x9)),(9,I x17.1),(12,(Qb8 x21)),(14,(.own 1 8 (0) ((x21.1.length:Int).toNat))),(15,I y62),(16,.ref 2 3 0 0),(19,I y89),(23,.ref 3 8 0 0),(24,I 6)] [0,1,2,3] [(Qdn p0),(.own 8 ((y123.set y89.toNat (⟨x159.a0,x159.a1,x159.a2,x159.a3,x159.a4,(x106.Silica==x110.Silica.Hi),x159.a6,x159.a7⟩:Qas):List Qas).map Qaw)),(Qca x81),(Qcx x106 x110)] hφ0 (pc (rnd Qaj) (pc (rnd Qag) (prr (pc (rnd Qcq) (pw (pc (rnd Qaz) (pc (.rn (Qa5 rfl)) (pw (prr (pw (prr (pw pn)))))))))))) (qb (lc (rnd Qan) (lc (rnd Qab) ln)) (qc (spr Qcn) (qb (lc (rnd Qag) (lc (rnd Qay) (lc (rnd Qaj) ln))) (qb (lcc (lcc (lcc (lcc ln)))) qn)))))⟩
                   ·skip
                    refine wsq<|wxz<|wtr<|Qap<|thn<|wsq<|Qao ?_
                    obtain⟨hi161,h⟩:=cko h
                    obtain⟨hi161a,hi161b⟩:=Qcy hi161
                    obtain⟨x162,hg163,h⟩:=bno h
                    refine Q3m (A:=(Qve x21 y89 y121 x162)) ⟨aio rfl underlying119 Qks (odt hi161a) (odt hi161b) (Nat.zero_add _),Qbw rfl underlying122 ti4 (by decide) (by decide) rfl,ald rfl ti4 (by decide) (mgt Qaw hg163) (nle rfl) rfl,tv⟩ fun q6_=>?_
                    refine bfe h (fun hb164 h=>?_) fun hb164 h=>?_
                    ·obtain⟨hi165,h⟩:=cko h
                     obtain⟨hi165a,hi165b⟩:=Qcy hi165
                     obtain⟨x166,hg167,h⟩:=bno h
                     refine wy1 tbk (hcat (Qve x21 y89 y121 x162) [(9,rp [(.tmp 264,B x162.a4)] (B true)),(14,rb [(.tmp 256,(.own 1 8 (0) ((x21.1.length:Int).toNat))),(.tmp 257,I y89)] [(1,(Qjd y121))] (.ref 1 8 (y89.toNat) 0)),(15,rb [(.tmp 270,(.ref 1 8 (y89.toNat) 0)),(.tmp 258,I 4)] [(1,(Qjd y121))] (.ref 1 8 (y89.toNat) 4)),(16,⟨[(.tmp 271,(.ref 1 8 (y89.toNat) 4)),(.tmp 269,B true)],[(1,(Qjd y121))],.any,[(1,(Q1y y121 y89 x166))],false⟩)]) (hap q6_ ⟨asb hb164 (amv rfl),aio rfl underlying119 Qks (odt hi165a) (odt hi165b) (Nat.zero_add _),Qbw rfl underlying122 ti4 (by decide) (by decide) rfl,ast rfl ti4 (by rfl) (mgt Qaw hg167) (nle rfl) (Qeq Qaw rfl),tv⟩)<|bln<|thn<|wxz1<|thn ?_
                     exact⟨(y121.set y89.toNat (⟨x166.a0,x166.a1,x166.a2,x166.a3,true,x166.a5,x166.a6,x166.a7⟩:Qas)),h,(mto (n:=328) [(1,(Qc4 p1)),(2,(Qcz p2)),(3,.ref 0 2 0 0),(7,(Qcs x9)),(9,I x17.1),(12,(Qb8 x21)),(14,(.own 1 8 (0) ((x21.1.length:Int).toNat))),(15,I y62),(16,.ref 2 3 0 0),(19,I y89),(23,.ref 3 8 0 0),(24,I 5)] [0,1,2,3] [(Qdn p0),(Q1y y121 y89 x166),(Qca x81),(Qcx x106 x110)] hφ0 (pc (rnd Qaj) (pc (rnd Qag) (prr (pc (rnd Qcq) (pw (pc (rnd Qaz) (pc (.rn (Qa5 rfl)) (pw (prr (pw (prr (pw pn)))))))))))) (qb (lc (rnd Qan) (lc (rnd Qab) ln)) (qc (spr Qcn) (qb (lc (rnd Qag) (lc (rnd Qay) (lc (rnd Qaj) ln))) (qb (lcc (lcc (lcc (lcc ln)))) qn)))))⟩
                    ·obtain⟨hi168,h⟩:=cko h
                     obtain⟨hi168a,hi168b⟩:=Qcy hi168
                     obtain⟨x169,hg170,h⟩:=bno h
                     refine wy1 tbk (hcat (Qve x21 y89 y121 x162) [(9,rp [(.tmp 264,B x162.a4)] (B false)),(11,rb [(.tmp 265,B false),(.tmp 23,.ref 3 8 0 0),(.tmp 266,I 4)] [(3,(Qcx x106 x110))] (.ref 3 8 0 4)),(14,rb [(.tmp 256,(.own 1 8 (0) ((x21.1.length:Int).toNat))),(.tmp 257,I y89)] [(1,(Qjd y121))] (.ref 1 8 (y89.toNat) 0)),(15,rb [(.tmp 270,(.ref 1 8 (y89.toNat) 0)),(.tmp 258,I 4)] [(1,(Qjd y121))] (.ref 1 8 (y89.toNat) 4)),(16,⟨[(.tmp 271,(.ref 1 8 (y89.toNat) 4)),(.tmp 269,(B ((x106.Silica==x110.Silica.Lo))))],[(1,(Qjd y121))],.any,[(1,(.own 8 ((y121.set y89.toNat (⟨x169.a0,x169.a1,x169.a2,x169.a3,(x106.Silica==x110.Silica.Lo),x169.a5,x169.a6,x169.a7⟩:Qas):List Qas).map Qaw)))],false⟩)]) (hap q6_ ⟨asb hb164 (amv rfl),ag_ (Qbw rfl underlying122 ti4 (by decide) (by decide) rfl),aio rfl underlying119 Qks (odt hi168a) (odt hi168b) (Nat.zero_add _),Qbw rfl underlying122 ti4 (by decide) (by decide) rfl,ast rfl ti4 (by rfl) (mgt Qaw hg170) (nle rfl) (Qeq Qaw rfl),tv⟩)<|bln<|thn<|wxz1<|thn ?_
                     exact⟨(y121.set y89.toNat (⟨x169.a0,x169.a1,x169.a2,x169.a3,(x106.Silica==x110.Silica.Lo),x169.a5,x169.a6,x169.a7⟩:Qas)),h,(mto (n:=328) [(1,(Qc4 p1)),(2,(Qcz p2)),(3,.ref 0 2 0 0),(7,(Qcs x9)),(9,I x17.1),(12,(Qb8 x21)),(14,(.own 1 8 (0) ((x21.1.length:Int).toNat))),(15,I y62),(16,.ref 2 3 0 0),(19,I y89),(23,.ref 3 8 0 0),(24,I 5)] [0,1,2,3] [(Qdn p0),(.own 8 ((y121.set y89.toNat (⟨x169.a0,x169.a1,x169.a2,x169.a3,(x106.Silica==x110.Silica.Lo),x169.a5,x169.a6,x169.a7⟩:Qas):List Qas).map Qaw)),(Qca x81),(Qcx x106 x110)] hφ0 (pc (rnd Qaj) (pc (rnd Qag) (prr (pc (rnd Qcq) (pw (pc (rnd Qaz) (pc (.rn (Qa5 rfl)) (pw (prr (pw (prr (pw pn)))))))))))) (qb (lc (rnd Qan) (lc (rnd Qab) ln)) (qc (spr Qcn) (qb (lc (rnd Qag) (lc (rnd Qay) (lc (rnd Qaj) ln))) (qb (lcc (lcc (lcc (lcc ln)))) qn)))))⟩
                  ·skip
                   refine wsq<|wxz<|wtr<|Qap<|thn<|wsq<|Qao ?_
                   obtain⟨hi171,h⟩:=cko h
                   obtain⟨hi171a,hi171b⟩:=Qcy hi171
                   obtain⟨x172,hg173,h⟩:=bno h
                   refine Q3m (A:=(Qvd x21 y89 y119 x172)) ⟨aio rfl underlying119 Qks (odt hi171a) (odt hi171b) (Nat.zero_add _),Qbw rfl underlying122 ti4 (by decide) (by decide) rfl,ald rfl ti4 (by decide) (mgt Qaw hg173) (nle rfl) rfl,tv⟩ fun q7_=>?_
                   refine bfe h (fun hb174 h=>?_) fun hb174 h=>?_
                   ·obtain⟨hi175,h⟩:=cko h
                    obtain⟨hi175a,hi175b⟩:=Qcy hi175
                    obtain⟨x176,hg177,h⟩:=bno h
                    refine wy1 tbk (hcat (Qvd x21 y89 y119 x172) [(9,rp [(.tmp 264,B x172.a3)] (B true)),(14,rb [(.tmp 256,(.own 1 8 (0) ((x21.1.length:Int).toNat))),(.tmp 257,I y89)] [(1,(Qje y119))] (.ref 1 8 (y89.toNat) 0)),(15,rb [(.tmp 270,(.ref 1 8 (y89.toNat) 0)),(.tmp 258,I 3)] [(1,(Qje y119))] (.ref 1 8 (y89.toNat) 3)),(16,⟨[(.tmp 271,(.ref 1 8 (y89.toNat) 3)),(.tmp 269,B true)],[(1,(Qje y119))],.any,[(1,(Q1x y119 y89 x176))],false⟩)]) (hap q7_ ⟨asb hb174 (amv rfl),aio rfl underlying119 Qks (odt hi175a) (odt hi175b) (Nat.zero_add _),Qbw rfl underlying122 ti4 (by decide) (by decide) rfl,ast rfl ti4 (by rfl) (mgt Qaw hg177) (nle rfl) (Qeq Qaw rfl),tv⟩)<|bln<|thn<|wxz1<|thn ?_
                    exact⟨(y119.set y89.toNat (⟨x176.a0,x176.a1,x176.a2,true,x176.a4,x176.a5,x176.a6,x176.a7⟩:Qas)),h,(mto (n:=328) [(1,(Qc4 p1)),(2,(Qcz p2)),(3,.ref 0 2 0 0),(7,(Qcs x9)),(9,I x17.1),(12,(Qb8 x21)),(14,(.own 1 8 (0) ((x21.1.length:Int).toNat))),(15,I y62),(16,.ref 2 3 0 0),(19,I y89),(23,.ref 3 8 0 0),(24,I 4)] [0,1,2,3] [(Qdn p0),(Q1x y119 y89 x176),(Qca x81),(Qcx x106 x110)] hφ0 (pc (rnd Qaj) (pc (rnd Qag) (prr (pc (rnd Qcq) (pw (pc (rnd Qaz) (pc (.rn (Qa5 rfl)) (pw (prr (pw (prr (pw pn)))))))))))) (qb (lc (rnd Qan) (lc (rnd Qab) ln)) (qc (spr Qcn) (qb (lc (rnd Qag) (lc (rnd Qay) (lc (rnd Qaj) ln))) (qb (lcc (lcc (lcc (lcc ln)))) qn)))))⟩
                   ·obtain⟨hi178,h⟩:=cko h
                    obtain⟨hi178a,hi178b⟩:=Qcy hi178
                    obtain⟨x179,hg180,h⟩:=bno h
                    refine wy1 tbk (hcat (Qvd x21 y89 y119 x172) [(9,rp [(.tmp 264,B x172.a3)] (B false)),(11,rb [(.tmp 265,B false),(.tmp 23,.ref 3 8 0 0),(.tmp 266,I 3)] [(3,(Qcx x106 x110))] (.ref 3 8 0 3)),(14,rb [(.tmp 256,(.own 1 8 (0) ((x21.1.length:Int).toNat))),(.tmp 257,I y89)] [(1,(Qje y119))] (.ref 1 8 (y89.toNat) 0)),(15,rb [(.tmp 270,(.ref 1 8 (y89.toNat) 0)),(.tmp 258,I 3)] [(1,(Qje y119))] (.ref 1 8 (y89.toNat) 3)),(16,⟨[(.tmp 271,(.ref 1 8 (y89.toNat) 3)),(.tmp 269,(B ((x106.Heat==x110.Heat.Hi))))],[(1,(Qje y119))],.any,[(1,(.own 8 ((y119.set y89.toNat (⟨x179.a0,x179.a1,x179.a2,(x106.Heat==x110.Heat.Hi),x179.a4,x179.a5,x179.a6,x179.a7⟩:Qas):List Qas).map Qaw)))],false⟩)]) (hap q7_ ⟨asb hb174 (amv rfl),ag_ (Qbw rfl underlying122 ti4 (by decide) (by decide) rfl),aio rfl underlying119 Qks (odt hi178a) (odt hi178b) (Nat.zero_add _),Qbw rfl underlying122 ti4 (by decide) (by decide) rfl,ast rfl ti4 (by rfl) (mgt Qaw hg180) (nle rfl) (Qeq Qaw rfl),tv⟩)<|bln<|thn<|wxz1<|thn ?_
                    exact⟨(y119.set y89.toNat (⟨x179.a0,x179.a1,x179.a2,(x106.Heat==x110.Heat.Hi),x179.a4,x179.a5,x179.a6,x179.a7⟩:Qas)),h,(mto (n:=328) [(1,(Qc4 p1)),(2,(Qcz p2)),(3,.ref 0 2 0 0),(7,(Qcs x9)),(9,I x17.1),(12,(Qb8 x21)),(14,(.own 1 8 (0) ((x21.1.length:Int).toNat))),(15,I y62),(16,.ref 2 3 0 0),(19,I y89),(23,.ref 3 8 0 0),(24,I 4)] [0,1,2,3] [(Qdn p0),(.own 8 ((y119.set y89.toNat (⟨x179.a0,x179.a1,x179.a2,(x106.Heat==x110.Heat.Hi),x179.a4,x179.a5,x179.a6,x179.a7⟩:Qas):List Qas).map Qaw)),(Qca x81),(Qcx x106 x110)] hφ0 (pc (rnd Qaj) (pc (rnd Qag) (prr (pc (rnd Qcq) (pw (pc (rnd Qaz) (pc (.rn (Qa5 rfl)) (pw (prr (pw (prr (pw pn)))))))))))) (qb (lc (rnd Qan) (lc (rnd Qab) ln)) (qc (spr Qcn) (qb (lc (rnd Qag) (lc (rnd Qay) (lc (rnd Qaj) ln))) (qb (lcc (lcc (lcc (lcc ln)))) qn)))))⟩
                 ·skip
                  refine wsq<|wxz<|wtr<|Qap<|thn<|wsq<|Qao ?_
                  obtain⟨hi181,h⟩:=cko h
                  obtain⟨hi181a,hi181b⟩:=Qcy hi181
                  obtain⟨x182,hg183,h⟩:=bno h
                  refine Q3m (A:=(Qvc x21 y89 y117 x182)) ⟨aio rfl underlying119 Qks (odt hi181a) (odt hi181b) (Nat.zero_add _),Qbw rfl underlying122 ti4 (by decide) (by decide) rfl,ald rfl ti4 (by decide) (mgt Qaw hg183) (nle rfl) rfl,tv⟩ fun q8_=>?_
                  refine bfe h (fun hb184 h=>?_) fun hb184 h=>?_
                  ·obtain⟨hi185,h⟩:=cko h
                   obtain⟨hi185a,hi185b⟩:=Qcy hi185
                   obtain⟨x186,hg187,h⟩:=bno h
                   refine wy1 tbk (hcat (Qvc x21 y89 y117 x182) [(9,rp [(.tmp 264,B x182.a2)] (B true)),(14,rb [(.tmp 256,(.own 1 8 (0) ((x21.1.length:Int).toNat))),(.tmp 257,I y89)] [(1,(Qjf y117))] (.ref 1 8 (y89.toNat) 0)),(15,rb [(.tmp 270,(.ref 1 8 (y89.toNat) 0)),(.tmp 258,I 2)] [(1,(Qjf y117))] (.ref 1 8 (y89.toNat) 2)),(16,⟨[(.tmp 271,(.ref 1 8 (y89.toNat) 2)),(.tmp 269,B true)],[(1,(Qjf y117))],.any,[(1,(Q1w y117 y89 x186))],false⟩)]) (hap q8_ ⟨asb hb184 (amv rfl),aio rfl underlying119 Qks (odt hi185a) (odt hi185b) (Nat.zero_add _),Qbw rfl underlying122 ti4 (by decide) (by decide) rfl,ast rfl ti4 (by rfl) (mgt Qaw hg187) (nle rfl) (Qeq Qaw rfl),tv⟩)<|bln<|thn<|wxz1<|thn ?_
                   exact⟨(y117.set y89.toNat (⟨x186.a0,x186.a1,true,x186.a3,x186.a4,x186.a5,x186.a6,x186.a7⟩:Qas)),h,(mto (n:=328) [(1,(Qc4 p1)),(2,(Qcz p2)),(3,.ref 0 2 0 0),(7,(Qcs x9)),(9,I x17.1),(12,(Qb8 x21)),(14,(.own 1 8 (0) ((x21.1.length:Int).toNat))),(15,I y62),(16,.ref 2 3 0 0),(19,I y89),(23,.ref 3 8 0 0),(24,I 3)] [0,1,2,3] [(Qdn p0),(Q1w y117 y89 x186),(Qca x81),(Qcx x106 x110)] hφ0 (pc (rnd Qaj) (pc (rnd Qag) (prr (pc (rnd Qcq) (pw (pc (rnd Qaz) (pc (.rn (Qa5 rfl)) (pw (prr (pw (prr (pw pn)))))))))))) (qb (lc (rnd Qan) (lc (rnd Qab) ln)) (qc (spr Qcn) (qb (lc (rnd Qag) (lc (rnd Qay) (lc (rnd Qaj) ln))) (qb (lcc (lcc (lcc (lcc ln)))) qn)))))⟩
                  ·obtain⟨hi188,h⟩:=cko h
                   obtain⟨hi188a,hi188b⟩:=Qcy hi188
                   obtain⟨x189,hg190,h⟩:=bno h
                   refine wy1 tbk (hcat (Qvc x21 y89 y117 x182) [(9,rp [(.tmp 264,B x182.a2)] (B false)),(11,rb [(.tmp 265,B false),(.tmp 23,.ref 3 8 0 0),(.tmp 266,I 2)] [(3,(Qcx x106 x110))] (.ref 3 8 0 2)),(14,rb [(.tmp 256,(.own 1 8 (0) ((x21.1.length:Int).toNat))),(.tmp 257,I y89)] [(1,(Qjf y117))] (.ref 1 8 (y89.toNat) 0)),(15,rb [(.tmp 270,(.ref 1 8 (y89.toNat) 0)),(.tmp 258,I 2)] [(1,(Qjf y117))] (.ref 1 8 (y89.toNat) 2)),(16,⟨[(.tmp 271,(.ref 1 8 (y89.toNat) 2)),(.tmp 269,(B ((x106.Heat==x110.Heat.Lo))))],[(1,(Qjf y117))],.any,[(1,(.own 8 ((y117.set y89.toNat (⟨x189.a0,x189.a1,(x106.Heat==x110.Heat.Lo),x189.a3,x189.a4,x189.a5,x189.a6,x189.a7⟩:Qas):List Qas).map Qaw)))],false⟩)]) (hap q8_ ⟨asb hb184 (amv rfl),ag_ (Qbw rfl underlying122 ti4 (by decide) (by decide) rfl),aio rfl underlying119 Qks (odt hi188a) (odt hi188b) (Nat.zero_add _),Qbw rfl underlying122 ti4 (by decide) (by decide) rfl,ast rfl ti4 (by rfl) (mgt Qaw hg190) (nle rfl) (Qeq Qaw rfl),tv⟩)<|bln<|thn<|wxz1<|thn ?_
                   exact⟨(y117.set y89.toNat (⟨x189.a0,x189.a1,(x106.Heat==x110.Heat.Lo),x189.a3,x189.a4,x189.a5,x189.a6,x189.a7⟩:Qas)),h,(mto (n:=328) [(1,(Qc4 p1)),(2,(Qcz p2)),(3,.ref 0 2 0 0),(7,(Qcs x9)),(9,I x17.1),(12,(Qb8 x21)),(14,(.own 1 8 (0) ((x21.1.length:Int).toNat))),(15,I y62),(16,.ref 2 3 0 0),(19,I y89),(23,.ref 3 8 0 0),(24,I 3)] [0,1,2,3] [(Qdn p0),(.own 8 ((y117.set y89.toNat (⟨x189.a0,x189.a1,(x106.Heat==x110.Heat.Lo),x189.a3,x189.a4,x189.a5,x189.a6,x189.a7⟩:Qas):List Qas).map Qaw)),(Qca x81),(Qcx x106 x110)] hφ0 (pc (rnd Qaj) (pc (rnd Qag) (prr (pc (rnd Qcq) (pw (pc (rnd Qaz) (pc (.rn (Qa5 rfl)) (pw (prr (pw (prr (pw pn)))))))))))) (qb (lc (rnd Qan) (lc (rnd Qab) ln)) (qc (spr Qcn) (qb (lc (rnd Qag) (lc (rnd Qay) (lc (rnd Qaj) ln))) (qb (lcc (lcc (lcc (lcc ln)))) qn)))))⟩
                ·skip
                 refine wsq<|wxz<|wtr<|Qap<|thn<|wsq<|Qao ?_
                 obtain⟨hi191,h⟩:=cko h
                 obtain⟨hi191a,hi191b⟩:=Qcy hi191
                 obtain⟨x192,hg193,h⟩:=bno h
                 refine Q3m (A:=(Qvb x21 y89 y115 x192)) ⟨aio rfl underlying119 Qks (odt hi191a) (odt hi191b) (Nat.zero_add _),Qbw rfl underlying122 ti4 (by decide) (by decide) rfl,ald rfl ti4 (by decide) (mgt Qaw hg193) (nle rfl) rfl,tv⟩ fun q9_=>?_
                 refine bfe h (fun hb194 h=>?_) fun hb194 h=>?_
                 ·obtain⟨hi195,h⟩:=cko h
                  obtain⟨hi195a,hi195b⟩:=Qcy hi195
                  obtain⟨x196,hg197,h⟩:=bno h
                  refine wy1 tbk (hcat (Qvb x21 y89 y115 x192) [(9,rp [(.tmp 264,B x192.a1)] (B true)),(14,rb [(.tmp 256,(.own 1 8 (0) ((x21.1.length:Int).toNat))),(.tmp 257,I y89)] [(1,(Qjg y115))] (.ref 1 8 (y89.toNat) 0)),(15,rb [(.tmp 270,(.ref 1 8 (y89.toNat) 0)),(.tmp 258,I 1)] [(1,(Qjg y115))] (.ref 1 8 (y89.toNat) 1)),(16,⟨[(.tmp 271,(.ref 1 8 (y89.toNat) 1)),(.tmp 269,B true)],[(1,(Qjg y115))],.any,[(1,(Q1v y115 y89 x196))],false⟩)]) (hap q9_ ⟨asb hb194 (amv rfl),aio rfl underlying119 Qks (odt hi195a) (odt hi195b) (Nat.zero_add _),Qbw rfl underlying122 ti4 (by decide) (by decide) rfl,ast rfl ti4 (by rfl) (mgt Qaw hg197) (nle rfl) (Qeq Qaw rfl),tv⟩)<|bln<|thn<|wxz1<|thn ?_
                  exact⟨(y115.set y89.toNat (⟨x196.a0,true,x196.a2,x196.a3,x196.a4,x196.a5,x196.a6,x196.a7⟩:Qas)),h,(mto (n:=328) [(1,(Qc4 p1)),(2,(Qcz p2)),(3,.ref 0 2 0 0),(7,(Qcs x9)),(9,I x17.1),(12,(Qb8 x21)),(14,(.own 1 8 (0) ((x21.1.length:Int).toNat))),(15,I y62),(16,.ref 2 3 0 0),(19,I y89),(23,.ref 3 8 0 0),(24,I 2)] [0,1,2,3] [(Qdn p0),(Q1v y115 y89 x196),(Qca x81),(Qcx x106 x110)] hφ0 (pc (rnd Qaj) (pc (rnd Qag) (prr (pc (rnd Qcq) (pw (pc (rnd Qaz) (pc (.rn (Qa5 rfl)) (pw (prr (pw (prr (pw pn)))))))))))) (qb (lc (rnd Qan) (lc (rnd Qab) ln)) (qc (spr Qcn) (qb (lc (rnd Qag) (lc (rnd Qay) (lc (rnd Qaj) ln))) (qb (lcc (lcc (lcc (lcc ln)))) qn)))))⟩
                 ·obtain⟨hi198,h⟩:=cko h
                  obtain⟨hi198a,hi198b⟩:=Qcy hi198
                  obtain⟨x199,hg200,h⟩:=bno h
                  refine wy1 tbk (hcat (Qvb x21 y89 y115 x192) [(9,rp [(.tmp 264,B x192.a1)] (B false)),(11,rb [(.tmp 265,B false),(.tmp 23,.ref 3 8 0 0),(.tmp 266,I 1)] [(3,(Qcx x106 x110))] (.ref 3 8 0 1)),(14,rb [(.tmp 256,(.own 1 8 (0) ((x21.1.length:Int).toNat))),(.tmp 257,I y89)] [(1,(Qjg y115))] (.ref 1 8 (y89.toNat) 0)),(15,rb [(.tmp 270,(.ref 1 8 (y89.toNat) 0)),(.tmp 258,I 1)] [(1,(Qjg y115))] (.ref 1 8 (y89.toNat) 1)),(16,⟨[(.tmp 271,(.ref 1 8 (y89.toNat) 1)),(.tmp 269,(B ((x106.Mass==x110.Mass.Hi))))],[(1,(Qjg y115))],.any,[(1,(.own 8 ((y115.set y89.toNat (⟨x199.a0,(x106.Mass==x110.Mass.Hi),x199.a2,x199.a3,x199.a4,x199.a5,x199.a6,x199.a7⟩:Qas):List Qas).map Qaw)))],false⟩)]) (hap q9_ ⟨asb hb194 (amv rfl),ag_ (Qbw rfl underlying122 ti4 (by decide) (by decide) rfl),aio rfl underlying119 Qks (odt hi198a) (odt hi198b) (Nat.zero_add _),Qbw rfl underlying122 ti4 (by decide) (by decide) rfl,ast rfl ti4 (by rfl) (mgt Qaw hg200) (nle rfl) (Qeq Qaw rfl),tv⟩)<|bln<|thn<|wxz1<|thn ?_
                  exact⟨(y115.set y89.toNat (⟨x199.a0,(x106.Mass==x110.Mass.Hi),x199.a2,x199.a3,x199.a4,x199.a5,x199.a6,x199.a7⟩:Qas)),h,(mto (n:=328) [(1,(Qc4 p1)),(2,(Qcz p2)),(3,.ref 0 2 0 0),(7,(Qcs x9)),(9,I x17.1),(12,(Qb8 x21)),(14,(.own 1 8 (0) ((x21.1.length:Int).toNat))),(15,I y62),(16,.ref 2 3 0 0),(19,I y89),(23,.ref 3 8 0 0),(24,I 2)] [0,1,2,3] [(Qdn p0),(.own 8 ((y115.set y89.toNat (⟨x199.a0,(x106.Mass==x110.Mass.Hi),x199.a2,x199.a3,x199.a4,x199.a5,x199.a6,x199.a7⟩:Qas):List Qas).map Qaw)),(Qca x81),(Qcx x106 x110)] hφ0 (pc (rnd Qaj) (pc (rnd Qag) (prr (pc (rnd Qcq) (pw (pc (rnd Qaz) (pc (.rn (Qa5 rfl)) (pw (prr (pw (prr (pw pn)))))))))))) (qb (lc (rnd Qan) (lc (rnd Qab) ln)) (qc (spr Qcn) (qb (lc (rnd Qag) (lc (rnd Qay) (lc (rnd Qaj) ln))) (qb (lcc (lcc (lcc (lcc ln)))) qn)))))⟩
               ·skip
                refine wsq<|wxz<|wtr<|Qap<|thn<|wsq<|Qao ?_
                obtain⟨hi201,h⟩:=cko h
                obtain⟨hi201a,hi201b⟩:=Qcy hi201
                obtain⟨x202,hg203,h⟩:=bno h
                refine Q3m (A:=(Qva x21 y89 y90 x202)) ⟨aio rfl underlying119 Qks (odt hi201a) (odt hi201b) (Nat.zero_add _),Qbw rfl underlying122 ti4 (by decide) (by decide) rfl,ald rfl ti4 (by decide) (mgt Qaw hg203) (nle rfl) rfl,tv⟩ fun q10_=>?_
                refine bfe h (fun hb204 h=>?_) fun hb204 h=>?_
                ·obtain⟨hi205,h⟩:=cko h
                 obtain⟨hi205a,hi205b⟩:=Qcy hi205
                 obtain⟨x206,hg207,h⟩:=bno h
                 refine wy1 tbk (hcat (Qva x21 y89 y90 x202) [(9,rp [(.tmp 264,B x202.a0)] (B true)),(14,rb [(.tmp 256,(.own 1 8 (0) ((x21.1.length:Int).toNat))),(.tmp 257,I y89)] [(1,(Qh7 y90))] (.ref 1 8 (y89.toNat) 0)),(15,rb [(.tmp 270,(.ref 1 8 (y89.toNat) 0)),(.tmp 258,I 0)] [(1,(Qh7 y90))] (.ref 1 8 (y89.toNat) 0)),(16,⟨[(.tmp 271,(.ref 1 8 (y89.toNat) 0)),(.tmp 269,B true)],[(1,(Qh7 y90))],.any,[(1,(Q1u y90 y89 x206))],false⟩)]) (hap q10_ ⟨asb hb204 (amv rfl),aio rfl underlying119 Qks (odt hi205a) (odt hi205b) (Nat.zero_add _),Qbw rfl underlying122 ti4 (by decide) (by decide) rfl,ast rfl ti4 (by rfl) (mgt Qaw hg207) (nle rfl) (Qeq Qaw rfl),tv⟩)<|bln<|thn<|wxz1<|thn ?_
                 exact⟨(y90.set y89.toNat (⟨true,x206.a1,x206.a2,x206.a3,x206.a4,x206.a5,x206.a6,x206.a7⟩:Qas)),h,(mto (n:=328) [(1,(Qc4 p1)),(2,(Qcz p2)),(3,.ref 0 2 0 0),(7,(Qcs x9)),(9,I x17.1),(12,(Qb8 x21)),(14,(.own 1 8 (0) ((x21.1.length:Int).toNat))),(15,I y62),(16,.ref 2 3 0 0),(19,I y89),(23,.ref 5 8 0 0),(24,I 1)] [0,1,2,5] [(Qdn p0),(Q1u y90 y89 x206),(Qca x81),(Qcx x106 x110)] hφ0 (pc (rnd Qaj) (pc (rnd Qag) (prr (pc (rnd Qcq) (pw (pc (rnd Qaz) (pc (.rn (Qa5 rfl)) (pw (prr (pw (prr (pw pn)))))))))))) (qb (lc (rnd Qan) (lc (rnd Qab) ln)) (qc (spr Qcn) (qb (lc (rnd Qag) (lc (rnd Qay) (lc (rnd Qaj) ln))) (qb (lcc (lcc (lcc (lcc ln)))) qn)))))⟩
                ·obtain⟨hi208,h⟩:=cko h
                 obtain⟨hi208a,hi208b⟩:=Qcy hi208
                 obtain⟨x209,hg210,h⟩:=bno h
                 refine wy1 tbk (hcat (Qva x21 y89 y90 x202) [(9,rp [(.tmp 264,B x202.a0)] (B false)),(11,rb [(.tmp 265,B false),(.tmp 23,.ref 5 8 0 0),(.tmp 266,I 0)] [(5,(Qcx x106 x110))] (.ref 5 8 0 0)),(14,rb [(.tmp 256,(.own 1 8 (0) ((x21.1.length:Int).toNat))),(.tmp 257,I y89)] [(1,(Qh7 y90))] (.ref 1 8 (y89.toNat) 0)),(15,rb [(.tmp 270,(.ref 1 8 (y89.toNat) 0)),(.tmp 258,I 0)] [(1,(Qh7 y90))] (.ref 1 8 (y89.toNat) 0)),(16,⟨[(.tmp 271,(.ref 1 8 (y89.toNat) 0)),(.tmp 269,(B ((x106.Mass==x110.Mass.Lo))))],[(1,(Qh7 y90))],.any,[(1,(.own 8 ((y90.set y89.toNat (⟨(x106.Mass==x110.Mass.Lo),x209.a1,x209.a2,x209.a3,x209.a4,x209.a5,x209.a6,x209.a7⟩:Qas):List Qas).map Qaw)))],false⟩)]) (hap q10_ ⟨asb hb204 (amv rfl),ag_ (Qbw rfl underlying122 ti4 (by decide) (by decide) rfl),aio rfl underlying119 Qks (odt hi208a) (odt hi208b) (Nat.zero_add _),Qbw rfl underlying122 ti4 (by decide) (by decide) rfl,ast rfl ti4 (by rfl) (mgt Qaw hg210) (nle rfl) (Qeq Qaw rfl),tv⟩)<|bln<|thn<|wxz1<|thn ?_
                 exact⟨(y90.set y89.toNat (⟨(x106.Mass==x110.Mass.Lo),x209.a1,x209.a2,x209.a3,x209.a4,x209.a5,x209.a6,x209.a7⟩:Qas)),h,(mto (n:=328) [(1,(Qc4 p1)),(2,(Qcz p2)),(3,.ref 0 2 0 0),(7,(Qcs x9)),(9,I x17.1),(12,(Qb8 x21)),(14,(.own 1 8 (0) ((x21.1.length:Int).toNat))),(15,I y62),(16,.ref 2 3 0 0),(19,I y89),(23,.ref 5 8 0 0),(24,I 1)] [0,1,2,5] [(Qdn p0),(.own 8 ((y90.set y89.toNat (⟨(x106.Mass==x110.Mass.Lo),x209.a1,x209.a2,x209.a3,x209.a4,x209.a5,x209.a6,x209.a7⟩:Qas):List Qas).map Qaw)),(Qca x81),(Qcx x106 x110)] hφ0 (pc (rnd Qaj) (pc (rnd Qag) (prr (pc (rnd Qcq) (pw (pc (rnd Qaz) (pc (.rn (Qa5 rfl)) (pw (prr (pw (prr (pw pn)))))))))))) (qb (lc (rnd Qan) (lc (rnd Qab) ln)) (qc (spr Qcn) (qb (lc (rnd Qag) (lc (rnd Qay) (lc (rnd Qaj) ln))) (qb (lcc (lcc (lcc (lcc ln)))) qn)))))⟩
              ·skip
               obtain⟨x212,hf211,h⟩:=bno h
               refine hpre (A:=(Qu9 x106 x110 x212)) ⟨apv Q0y (Qm4 N x106.Mass (⟨x110.Mass.Lo,x110.Mass.Hi⟩:Qbo) _ hf211) (nlc nll (nlc (NLt.agg _ (nlcc nl0)) nl0)) nll,tv⟩ fun q11_=>?_
               refine bfe h (fun hb213 h=>?_) fun hb213 h=>?_
               ·refine wx tbk (hcat (Qu9 x106 x110 x212) [(6,rp [(.tmp 178,(B ((!x212))))] (B true))]) (hap q11_ ⟨asb hb213 (amv rfl),tv⟩)<|wtr<|wxz<|Qah<|Qac<|Qaq<|Qac<|Qac<|Qaq<|Qac ?_
                exact Qaq<|Qac<|Qac<|Qaq<|Qac<|frb h
               ·obtain⟨x215,hf214,h⟩:=bno h
                refine hpre (A:=(Qu8 x106 x110 x212 x215)) (hap q11_ ⟨asb hb213 (amv rfl),ag_ (apv Q0y (Qm4 N x106.Heat (⟨x110.Heat.Lo,x110.Heat.Hi⟩:Qbo) _ hf214) (nlc nll (nlc (NLt.agg _ (nlcc nl0)) nl0)) nll),tv⟩) fun q12_=>?_
                refine bfe h (fun hb216 h=>?_) fun hb216 h=>?_
                ·refine wx tbk (hcat (Qu8 x106 x110 x212 x215) [(14,rp [(.tmp 186,(B ((!x215))))] (B true))]) (hap q12_ ⟨asb hb216 (amv rfl),tv⟩)<|wtr<|wxz<|Qah<|Qac<|Qaq<|Qac<|Qac<|Qaq<|Qac ?_
                 exact Qaq<|Qac<|Qac<|Qaq<|Qac<|frb h
                ·obtain⟨x218,hf217,h⟩:=bno h
                 refine hpre (A:=(Qu7 x106 x110 x212 x215 x218)) (hap q12_ ⟨asb hb216 (amv rfl),ag_ (apv Q0y (Qm4 N x106.Silica (⟨x110.Silica.Lo,x110.Silica.Hi⟩:Qbo) _ hf217) (nlc nll (nlc (NLt.agg _ (nlcc nl0)) nl0)) nll),tv⟩) fun q13_=>?_
                 refine bfe h (fun hb219 h=>?_) fun hb219 h=>?_
                 ·refine wx tbk (hcat (Qu7 x106 x110 x212 x215 x218) [(22,rp [(.tmp 194,(B ((!x218))))] (B true))]) (hap q13_ ⟨asb hb219 (amv rfl),tv⟩)<|wtr<|wxz<|Qah<|Qac<|Qaq<|Qac<|Qac<|Qaq<|Qac ?_
                  exact Qaq<|Qac<|Qac<|Qaq<|Qac<|frb h
                 ·obtain⟨x221,hf220,h⟩:=bno h
                  refine wx tbk (hcat (Qu7 x106 x110 x212 x215 x218) [(22,rp [(.tmp 194,(B ((!x218))))] (B false)),(27,rp [(.tmp 195,B false),fu 48,(.tmp 197,I x106.Gas),(.tmp 199,(.agg [I x110.Gas.Lo,I x110.Gas.Hi]))] (B x221))]) (hap q13_ ⟨asb hb219 (amv rfl),ag_ (apv Q0y (Qm4 N x106.Gas (⟨x110.Gas.Lo,x110.Gas.Hi⟩:Qbo) _ hf220) (nlc nll (nlc (NLt.agg _ (nlcc nl0)) nl0)) nll),tv⟩) ?_
                  refine bfe h (fun hc222 h=>?_) fun hc222 h=>?_
                  ·refine wft hc222<|wxz<|Qah<|Qac<|Qaq<|Qac<|Qac<|Qaq<|Qac<|Qaq ?_
                   exact Qac<|Qac<|Qaq<|Qac<|frb h
                  ·exact wfn hc222<|Qap<|thn<|⟨(),h,(mto (n:=328) [(1,(Qc4 p1)),(2,(Qcz p2)),(3,.ref 0 2 0 0),(7,(Qcs x9)),(9,I x17.1),(12,(Qb8 x21)),(14,(.own 1 8 (0) ((x21.1.length:Int).toNat))),(15,I y62),(16,.ref 2 3 0 0),(19,I y89),(21,.ref 4 4 0 0),(22,.ref 5 8 0 0)] [0,1,2,4,5] [(Qdn p0),(Qh7 y90),(Qca x81),(Q13 x106),(Q12 x110)] hφ0 (pc (rnd Qaj) (pc (rnd Qag) (prr (pc (rnd Qcq) (pw (pc (rnd Qaz) (pc (.rn (Qa5 rfl)) (pw (prr (pw (prr (prr pn)))))))))))) (qb (lc (rnd Qan) (lc (rnd Qab) ln)) (qc (spr Qcn) (qb (lc (rnd Qag) (lc (rnd Qay) (lc (rnd Qaj) ln))) (qb (lcc (lcc ln)) (qb (lcc (lcc (lcc (lcc ln)))) qn))))))⟩
             ·skip
              refine bfe h (fun hb223 h=>?_) fun hb223 h=>?_
              ·refine wxd tbk [(3,rp [(.tmp 133,(B ((decide (x97.Element<0)))))] (B true))] ⟨asb hb223 (amv rfl),tv⟩<|wtr<|wxz<|Qah<|Qac<|Qaq<|Qac<|Qac<|Qaq<|Qac ?_
               exact Qaq<|Qac<|Qac<|Qaq<|Qac<|frb h
              ·refine hpre (A:=(Qrk x97 x81)) ⟨asb hb223 (amv rfl),ag_ (alm (c:=Qaf) (l:=x81.1.Out) (aln rfl underlying31 rfl)),tv⟩ fun q14_=>?_
               refine bfe h (fun hb224 h=>?_) fun hb224 h=>?_
               ·refine wxd tbk (hcat (Qrk x97 x81) [(11,rp [(.tmp 141,(B ((decide (x97.Element≥(x81.1.Out.length:Int))))))] (B true))]) (hap q14_ ⟨asb hb224 (amv rfl),tv⟩)<|wtr<|wxz<|Qah<|Qac<|Qaq<|Qac<|Qac<|Qaq<|Qac ?_
                exact Qaq<|Qac<|Qac<|Qaq<|Qac<|frb h
               ·refine bfe h (fun hb225 h=>?_) fun hb225 h=>?_
                ·refine wxd tbk (hcat (Qrk x97 x81) [(11,rp [(.tmp 141,(B ((decide (x97.Element≥(x81.1.Out.length:Int))))))] (B false)),(16,rp [(.tmp 146,(B ((decide (x97.Outlet<0)))))] (B true))]) (hap q14_ ⟨asb hb224 (amv rfl),asb hb225 (amv rfl),tv⟩)<|wtr<|wxz<|Qah<|Qac<|Qaq<|Qac<|Qac<|Qaq<|Qac ?_
                 exact Qaq<|Qac<|Qac<|Qaq<|Qac<|frb h
                ·obtain⟨x226,hg227,h⟩:=bno h
                 obtain⟨hi228,hj229⟩:=gsm hg227
                 refine wxd tbk (hcat (Qrk x97 x81) [(11,rp [(.tmp 141,(B ((decide (x97.Element≥(x81.1.Out.length:Int))))))] (B false)),(16,rp [(.tmp 146,(B ((decide (x97.Outlet<0)))))] (B false)),(23,rp [(.tmp 147,B false),(.tmp 151,(Qo1 x81)),(.tmp 153,I x97.Element)] (.dptr (Qaf (x226)) 0)),(25,rp [(.tmp 147,B false),(.tmp 155,(.dat 4 ((x226:List Qaa).map Qae)))] (I ((x226.length:Int))))]) (hap q14_ ⟨asb hb224 (amv rfl),asb hb225 (amv rfl),ag_ (aid rfl underlying31 ti45 rfl rfl hi228 (mgt Qaf hj229) rfl),ag_ (alm (c:=Qae) (l:=x226) (aln rfl underlying45 rfl)),tv⟩) ?_
                 refine bfe h (fun hc230 h=>?_) fun hc230 h=>?_
                 ·refine wft hc230<|wxz<|Qah<|Qac<|Qaq<|Qac<|Qac<|Qaq<|Qac<|Qaq ?_
                  exact Qac<|Qac<|Qaq<|Qac<|frb h
                 ·exact wfn hc230<|Qap<|thn<|⟨(),h,(mto (n:=328) [(1,(Qc4 p1)),(2,(Qcz p2)),(3,.ref 0 2 0 0),(7,(Qcs x9)),(9,I x17.1),(12,(Qb8 x21)),(14,(.own 1 8 (0) ((x21.1.length:Int).toNat))),(15,I y62),(16,.ref 2 3 0 0),(19,I y89),(20,.ref 3 2 0 0)] [0,1,2,3] [(Qdn p0),(Qh7 y90),(Qca x81),(.own 2 [[I x97.Element,I x97.Outlet]])] hφ0 (pc (rnd Qaj) (pc (rnd Qag) (prr (pc (rnd Qcq) (pw (pc (rnd Qaz) (pc (.rn (Qa5 rfl)) (pw (prr (pw (prr pn))))))))))) (qb (lc (rnd Qan) (lc (rnd Qab) ln)) (qc (spr Qcn) (qb (lc (rnd Qag) (lc (rnd Qay) (lc (rnd Qaj) ln))) (qb (lcc ln) qn)))))⟩
           ·exact wfn hc94<|Qbl<|Qax<|Qax<|Qbk rfl<|thn<|⟨(y90),h,(mto (n:=328) [(1,(Qc4 p1)),(2,(Qcz p2)),(3,.ref 0 2 0 0),(7,(Qcs x9)),(9,I x17.1),(12,(Qb8 x21)),(14,(.own 1 8 (0) ((x21.1.length:Int).toNat))),(15,I y62),(16,.ref 2 3 0 0)] [0,1,2] [(Qdn p0),(Qh7 y90),(Qca x81)] hφ0 (pc (rnd Qaj) (pc (rnd Qag) (prr (pc (rnd Qcq) (pw (pc (rnd Qaz) (pc (.rn (Qa5 rfl)) (pw (prr pn))))))))) (qb (lc (rnd Qan) (lc (rnd Qab) ln)) (qc (spr Qcn) (qb (lc (rnd Qag) (lc (rnd Qay) (lc (rnd Qaj) ln))) qn))))⟩
       ·exact wfn hc67<|Qbl<|Qax<|Qax<|Qbk rfl<|thn<|⟨(y63),h,(mto (n:=328) [(1,(Qc4 p1)),(2,(Qcz p2)),(3,.ref 0 2 0 0),(9,I x17.1),(12,(Qb8 x21)),(14,(.own 1 8 (0) ((x21.1.length:Int).toNat)))] [0,1] [(Qdn p0),(Qzs y63)] hφ0 (pc (rnd Qaj) (pc (rnd Qag) (prr (pw (pc (rnd Qaz) (pc (.rn (Qa5 rfl)) pn)))))) (qb (lc (rnd Qan) (lc (rnd Qab) ln)) (qc (spr Qcn) qn)))⟩
   ·skip
    refine bfe h (fun hb231 h=>?_) fun hb231 h=>?_
    ·exact wx tbk [(3,rp [(.tmp 74,(B ((x9.2 != x17.2.2))))] (B true))] ⟨asb hb231 (amv rfl),tv⟩<|wtr<|wxz<|Qah<|Qac<|frb h
    ·refine wx tbk [(3,rp [(.tmp 74,(B ((x9.2 != x17.2.2))))] (B false))] ⟨asb hb231 (amv rfl),tv⟩ ?_
     refine bfe h (fun hc232 h=>?_) fun hc232 h=>?_
     ·exact wft hc232<|wxz<|Qah<|Qac<|frb h
     ·exact wfn hc232<|Qap<|thn<|⟨(),h,(mto (n:=328) [(1,(Qc4 p1)),(2,(Qcz p2)),(3,.ref 0 2 0 0),(7,(Qcs x9)),(8,I x9.2),(9,I x17.1),(12,(Qb8 x21))] [0] [(Qdn p0)] hφ0 (pc (rnd Qaj) (pc (rnd Qag) (prr (pc (rnd Qcq) (pw (pw (pc (rnd Qaz) pn))))))) (qb (lc (rnd Qan) (lc (rnd Qab) ln)) qn))⟩
  ·skip
   obtain⟨x234,hf233,h⟩:=bno h
   refine hpre (A:=(Qu6 p0 p2 x234)) ⟨apv Zsh (Q0r N p0 p2 _ hf233) (nlc (NLt.agg _ (nlc (nld Qan _) (nlc (nld Qab _) nl0))) (nlc (nld Qag _) nl0)) nll,tv⟩ fun q15_=>?_
   refine bfe h (fun hb235 h=>?_) fun hb235 h=>?_
   ·refine wx tbk (hcat (Qu6 p0 p2 x234) [(4,rp [(.tmp 31,(B ((!x234))))] (B true))]) (hap q15_ ⟨asb hb235 (amv rfl),tv⟩)<|wtr ?_
    obtain⟨x237,hf236,h⟩:=bno h
    exact wx tbk [(0,rp [fu 15] (B x237))] ⟨apv Qtq (Qhu 2000  _ hf236) nl0 nll,tv⟩<|Qah<|Qac<|frb h
   ·refine hpre (A:=(Qu5 p0 p2 x234 p1)) (hap q15_ ⟨asb hb235 (amv rfl),ag_ (alm (c:=Qav) (l:=p1) (aln rfl underlying27 rfl)),tv⟩) fun q16_=>?_
    refine bfe h (fun hb238 h=>?_) fun hb238 h=>?_
    ·refine wx tbk (hcat (Qu5 p0 p2 x234 p1) [(9,rp [(.tmp 36,(B ((decide ((p1.length:Int)>25)))))] (B true))]) (hap q16_ ⟨asb hb238 (amv rfl),tv⟩)<|wtr ?_
     obtain⟨x240,hf239,h⟩:=bno h
     exact wx tbk [(0,rp [fu 15] (B x240))] ⟨apv Qtq (Qhu 2000  _ hf239) nl0 nll,tv⟩<|Qah<|Qac<|frb h
    ·obtain⟨x242,hf241,h⟩:=bno h
     refine wx tbk (hcat (Qu5 p0 p2 x234 p1) [(9,rp [(.tmp 36,(B ((decide ((p1.length:Int)>25)))))] (B false)),(13,rp [(.tmp 37,B false),fu 43,(.tmp 38,(Qvk p0)),(.tmp 39,(Qc4 p1)),(.tmp 40,(Qcz p2))] (I x242))]) (hap q16_ ⟨asb hb238 (amv rfl),ag_ (apv Zse (Qul N p0 p1 p2 _ hf241) (nlc (NLt.agg _ (nlc (nld Qan _) (nlc (nld Qab _) nl0))) (nlc (nld Qaj _) (nlc (nld Qag _) nl0))) nll),tv⟩) ?_
     refine bfe h (fun hc243 h=>?_) fun hc243 h=>?_
     ·refine wft hc243 ?_
      obtain⟨x245,hf244,h⟩:=bno h
      exact wx tbk [(0,rp [fu 15] (B x245))] ⟨apv Qtq (Qhu 2000  _ hf244) nl0 nll,tv⟩<|Qah<|Qac<|frb h
     ·exact wfn hc243<|Qap<|thn<|⟨(),h,(mto (n:=328) [(1,(Qc4 p1)),(2,(Qcz p2)),(3,.ref 0 2 0 0)] [0] [(Qdn p0)] hφ0 (pc (rnd Qaj) (pc (rnd Qag) (prr pn))) (qb (lc (rnd Qan) (lc (rnd Qab) ln)) qn))⟩
end
section
open Go.RowKit
theorem Ze9 (f:Qbt→Int):∀(l:List Qbt) (r:Qbo),r.Lo≤r.Hi →
  (l.foldl (fun r x=>wdR r (f x)) r).Lo≤r.Lo∧r.Hi≤(l.foldl (fun r x=>wdR r (f x)) r).Hi∧(∀x∈l,(l.foldl (fun r x=>wdR r (f x)) r).Lo≤f x∧f x≤(l.foldl (fun r x=>wdR r (f x)) r).Hi) ∧
  ((l.foldl (fun r x=>wdR r (f x)) r).Lo=r.Lo∨∃x∈l,f x=(l.foldl (fun r x=>wdR r (f x)) r).Lo)∧((l.foldl (fun r x=>wdR r (f x)) r).Hi=r.Hi∨∃x∈l,f x=(l.foldl (fun r x=>wdR r (f x)) r).Hi)
 |[],r,_=>⟨Int.le_refl _,Int.le_refl _,fun x h=>(by cases h),.inl rfl,.inl rfl⟩
 |w::l,r,h=>by
  rw[List.foldl_cons]
  have hw:(wdR r (f w)).Lo≤r.Lo∧(wdR r (f w)).Lo≤f w∧r.Hi≤(wdR r (f w)).Hi∧f w≤(wdR r (f w)).Hi∧((wdR r (f w)).Lo=r.Lo∨(wdR r (f w)).Lo=f w)∧((wdR r (f w)).Hi=r.Hi∨(wdR r (f w)).Hi=f w):=by
   unfold wdR
   dsimp only
   split<;>split<;>omega
  obtain⟨a,b,c,d,e⟩:=Ze9 f l (wdR r (f w)) (by omega)
  refine⟨by omega,by omega,fun x hx=>?_,?_,?_⟩
  ·rcases List.mem_cons.1 hx with rfl |hx
   ·omega
   ·exact c x hx
  ·rcases d with d |⟨x,hx,d⟩
   ·rcases hw.2.2.2.2.1 with h1 |h1
    ·exact .inl (by omega)
    ·exact .inr ⟨w,List.mem_cons_self,by omega⟩
   ·exact .inr ⟨x,List.mem_cons_of_mem _ hx,d⟩
  ·rcases e with e |⟨x,hx,e⟩
   ·rcases hw.2.2.2.2.2 with h1 |h1
    ·exact .inl (by omega)
    ·exact .inr ⟨w,List.mem_cons_self,by omega⟩
   ·exact .inr ⟨x,List.mem_cons_of_mem _ hx,e⟩
theorem Q2t (f:Qbt→Int) {W:List Qbt}(h:W≠[]):(∀x∈W,(rngF f W).Lo≤f x∧f x≤(rngF f W).Hi)∧(∃x∈W,f x=(rngF f W).Lo)∧∃x∈W,f x=(rngF f W).Hi:=by
 cases W with
 |nil=>exact absurd rfl h
 |cons w l=>
  obtain⟨a,b,c,d,e⟩:=Ze9 f l ⟨f w,f w⟩ (Int.le_refl _)
  rw[rngF]
  refine⟨fun x hx=>?_,?_,?_⟩
  ·rcases List.mem_cons.1 hx with rfl |hx
   ·exact⟨a,b⟩
   ·exact c x hx
  ·rcases d with d |⟨x,hx,d⟩
   ·exact⟨w,List.mem_cons_self,d.symm⟩
   ·exact⟨x,List.mem_cons_of_mem _ hx,d⟩
  ·rcases e with e |⟨x,hx,e⟩
   ·exact⟨w,List.mem_cons_self,e.symm⟩
   ·exact⟨x,List.mem_cons_of_mem _ hx,e⟩
def orA (o:List (List Qaa)) (W:List Qbt) (p:Qa6) (m:Qas):Qas:=
 ⟨m.a0||((Qe3 o p).Mass==(rngF (Qoy p) W).Lo),m.a1||((Qe3 o p).Mass==(rngF (Qoy p) W).Hi),m.a2||((Qe3 o p).Heat==(rngF (Qoz p) W).Lo),m.a3||((Qe3 o p).Heat==(rngF (Qoz p) W).Hi),
  m.a4||((Qe3 o p).Silica==(rngF (Qin p) W).Lo),m.a5||((Qe3 o p).Silica==(rngF (Qin p) W).Hi),m.a6||((Qe3 o p).Gas==(rngF (fGas p) W).Lo),m.a7||((Qe3 o p).Gas==(rngF (fGas p) W).Hi)⟩
def metP (W P:List Qbt) (p:Qa6):Qas:=
 ⟨P.any fun w=>Qoy p w==(rngF (Qoy p) W).Lo,P.any fun w=>Qoy p w==(rngF (Qoy p) W).Hi,P.any fun w=>Qoz p w==(rngF (Qoz p) W).Lo,P.any fun w=>Qoz p w==(rngF (Qoz p) W).Hi,
  P.any fun w=>Qin p w==(rngF (Qin p) W).Lo,P.any fun w=>Qin p w==(rngF (Qin p) W).Hi,P.any fun w=>fGas p w==(rngF (fGas p) W).Lo,P.any fun w=>fGas p w==(rngF (fGas p) W).Hi⟩
theorem Zkk (W P:List Qbt) (p:Qa6) (w:Qbt):orA w.Tick.Out W p (metP W P p)=metP W (P++[w]) p:=by
 unfold orA metP
 simp only[List.any_append,List.any_cons,List.any_nil,Bool.or_false]
 rfl
theorem Zrk {W:List Qbt}(h:W≠[]) (p:Qa6):metP W W p=⟨true,true,true,true,true,true,true,true⟩:=by
 have key:∀(f:Qbt→Int),(W.any fun w=>f w==(rngF f W).Lo)=true∧(W.any fun w=>f w==(rngF f W).Hi)=true:=fun f=>by
  obtain⟨_,⟨x,hx,h1⟩,y,hy,h2⟩:=Q2t f h
  exact⟨List.any_eq_true.2 ⟨x,hx,by simpa using h1⟩,List.any_eq_true.2 ⟨y,hy,by simpa using h2⟩⟩
 unfold metP
 rw[(key (Qoy p)).1,(key (Qoy p)).2,(key (Qoz p)).1,(key (Qoz p)).2,(key (Qin p)).1,(key (Qin p)).2,(key (fGas p)).1,(key (fGas p)).2]
structure InC (s:Qaa) (W:List Qbt) (p:Qa6):Prop where
 m:(rngF (Qoy p) W).Lo≤s.Mass∧s.Mass≤(rngF (Qoy p) W).Hi
 h:(rngF (Qoz p) W).Lo≤s.Heat∧s.Heat≤(rngF (Qoz p) W).Hi
 q:(rngF (Qin p) W).Lo≤s.Silica∧s.Silica≤(rngF (Qin p) W).Hi
 g:(rngF (fGas p) W).Lo≤s.Gas∧s.Gas≤(rngF (fGas p) W).Hi
theorem Q83 (N:Nat) {v:Int}{r:Qbo}(h:r.Lo≤v∧v≤r.Hi):Qls N v r=some true:=by
 unfold Qls
 rw[decide_eq_true (show v≥r.Lo from h.1),cond_true,decide_eq_true h.2]
theorem Qt4 {y:List Qas}{i:Nat}{x:Qas}(hx:y[i]? = some x) {b c:Bool}(A:Qas→Bool) (F:Bool→Qas→Qas) (k:List Qas→Option Bool) (hb:b=true) :
  (chk b<|(y[i]?).bind fun z=>bif A z then chk b<|(y[i]?).bind fun z'=>k (y.set i (F true z')) else chk b<|(y[i]?).bind fun z'=>k (y.set i (F c z')))=k (y.set i (F (A x||c) x)):=by
 subst hb
 simp only[chk,cond_true,hx,Option.bind_some]
 cases A x<;>rfl
theorem Qpb {y:List Qas}{i:Nat}(h:i<y.length) (z:Qas):(y.set i z)[i]? = some z:=by simp[h]
theorem Zkl (N:Nat) (W:List Qbt) (e1 e2:Int) (E:List Qa6) (t:Qhw) (f e:Int) (hE:E.length≤1000) (hP:∀p∈E,∃r,getI t.Out p.Element=some r∧getI r p.Outlet=some (Qe3 t.Out p)) (hin:∀p∈E,InC (Qe3 t.Out p) W p) (k:List Qas→Option Bool) :
  ∀(m i:Nat) (y:List Qas),(E.drop i).length<m→y.length=E.length→i≤E.length →
  Qc8 N (E.map (covW W),e1) (E,e2) (t,f,e) k m i y=k (y.take i++List.zipWith (orA t.Out W) (E.drop i) (y.drop i)):=by
 intro m
 induction m with
 |zero=>intro i y h;exact absurd h (Nat.not_lt_zero _)
 |succ m ih=>
  intro i y h hy hi
  rw[Qc8]
  cases hd:E.drop i with
  |nil=>
   have:=Qb4 hd
   rw[decide_eq_false (show ¬((i:Int)<(E.length:Int)) by omega),cond_false,List.take_of_length_le (by omega)]
   simp
  |cons p q=>
   obtain⟨hg,hd',hlt⟩:=Qbs hd
   have hpE:=List.mem_of_getElem? hg
   obtain⟨r,h1,h2⟩:=hP p hpE
   obtain⟨a1,a2⟩:=Qsg h1
   obtain⟨b1,b2⟩:=Qsg h2
   have a3:=(List.getElem?_eq_some_iff.1 a2).1
   have b3:=(List.getElem?_eq_some_iff.1 b2).1
   have hi':=hin p hpE
   have hx:∃x,y[i]? = some x:=⟨y[i]'(by omega),List.getElem?_eq_getElem (by omega)⟩
   obtain⟨x,hx⟩:=hx
   have hiy:i<y.length:=by omega
   have hb:(decide ((0:Int)≤(i:Int))&&decide ((i:Int).toNat<(E.length:Int).toNat))=true:=by simp;omega
   rw[decide_eq_true (show(i:Int)<(E.length:Int) by omega),cond_true,Qfi,Qb6 hg,Option.bind_some,Qfi,decide_eq_false (show ¬p.Element<0 by omega),cond_false,
    decide_eq_false (show ¬p.Element≥(t.Out.length:Int) by omega),cond_false,decide_eq_false (show ¬p.Outlet<0 by omega),cond_false,h1,Option.bind_some,decide_eq_false (show ¬p.Outlet≥(r.length:Int) by omega),cond_false]
   show((some r).bind fun _=>_)=_
   rw[Option.bind_some,h2,Option.bind_some,Qb6 (show(E.map (covW W))[i]? = some (covW W p) by simp[hg]),Option.bind_some,Qfi]
   rw[Q83 N (r:=⟨(covW W p).Mass.Lo,(covW W p).Mass.Hi⟩) hi'.m,Q83 N (r:=⟨(covW W p).Heat.Lo,(covW W p).Heat.Hi⟩) hi'.h,Q83 N (r:=⟨(covW W p).Silica.Lo,(covW W p).Silica.Hi⟩) hi'.q,Q83 N (r:=⟨(covW W p).Gas.Lo,(covW W p).Gas.Hi⟩) hi'.g]
   simp only[Option.bind_some,Bool.not_true,cond_false,Int.toNat_natCast]
   simp only[Int.toNat_natCast] at hb
   show Qbn _ _=_
   refine Qm5 fun k0 h0'=>?_
   refine(Qt4 hx (fun z=>z.a0) (fun b z=>⟨b,z.a1,z.a2,z.a3,z.a4,z.a5,z.a6,z.a7⟩) k0 hb).trans ?_
   subst h0'
   show Qbn _ _=_
   refine Qm5 fun k1 h1'=>?_
   refine(Qt4 (Qpb hiy _) (fun z=>z.a1) (fun b z=>⟨z.a0,b,z.a2,z.a3,z.a4,z.a5,z.a6,z.a7⟩) k1 hb).trans ?_
   subst h1'
   rw[List.set_set]
   show Qbn _ _=_
   refine Qm5 fun k2 h2'=>?_
   refine(Qt4 (Qpb hiy _) (fun z=>z.a2) (fun b z=>⟨z.a0,z.a1,b,z.a3,z.a4,z.a5,z.a6,z.a7⟩) k2 hb).trans ?_
   subst h2'
   rw[List.set_set]
   show Qbn _ _=_
   refine Qm5 fun k3 h3'=>?_
   refine(Qt4 (Qpb hiy _) (fun z=>z.a3) (fun b z=>⟨z.a0,z.a1,z.a2,b,z.a4,z.a5,z.a6,z.a7⟩) k3 hb).trans ?_
   subst h3'
   rw[List.set_set]
   show Qbn _ _=_
   refine Qm5 fun k4 h4'=>?_
   refine(Qt4 (Qpb hiy _) (fun z=>z.a4) (fun b z=>⟨z.a0,z.a1,z.a2,z.a3,b,z.a5,z.a6,z.a7⟩) k4 hb).trans ?_
   subst h4'
   rw[List.set_set]
   show Qbn _ _=_
   refine Qm5 fun k5 h5'=>?_
   refine(Qt4 (Qpb hiy _) (fun z=>z.a5) (fun b z=>⟨z.a0,z.a1,z.a2,z.a3,z.a4,b,z.a6,z.a7⟩) k5 hb).trans ?_
   subst h5'
   rw[List.set_set]
   show Qbn _ _=_
   refine Qm5 fun k6 h6'=>?_
   refine(Qt4 (Qpb hiy _) (fun z=>z.a6) (fun b z=>⟨z.a0,z.a1,z.a2,z.a3,z.a4,z.a5,b,z.a7⟩) k6 hb).trans ?_
   subst h6'
   rw[List.set_set]
   show Qbn _ _=_
   refine Qm5 fun k7 h7'=>?_
   refine(Qt4 (Qpb hiy _) (fun z=>z.a7) (fun b z=>⟨z.a0,z.a1,z.a2,z.a3,z.a4,z.a5,z.a6,b⟩) k7 hb).trans ?_
   subst h7'
   rw[List.set_set]
   show Qc8 N (E.map (covW W),e1) (E,e2) (t,f,e) k m (w64 ((i:Int)+1)) (y.set i (orA t.Out W p x))=_
   rw[Qbm (x:=(i:Int)+1) (by omega) (by omega),show(i:Int)+1=((i+1:Nat):Int) by omega,ih (i+1) _ (by rw[hd'];rw[hd] at h;simp at h;omega) (by simp[hy]) (by omega),hd']
   congr 1
   have e1:(y.set i (orA t.Out W p x)).take (i+1)=y.take i++[orA t.Out W p x]:=by
    rw[List.take_add_one,Qpb hiy,List.take_set_of_le (Nat.le_refl _)]
    rfl
   have e2:y.drop i=x::y.drop (i+1):=by
    rw[List.drop_eq_getElem_cons hiy]
    rw[List.getElem?_eq_getElem hiy] at hx
    rw[Option.some.inj hx]
   rw[e1,e2,List.zipWith_cons_cons,List.append_assoc,List.drop_set_of_lt (by omega)]
   rfl
theorem Qxc {n:GNet}{st:List Int}:∀{l:List (List Qaa)}{W:List Qbt},Qnl n st l=some W→W.length=l.length∧∀(i:Nat) c,l[i]? = some c→∃r,Qrw n st c=.inr r∧W[i]? = some (Qqj n c r)
 |[],W,h=>by rw[Qnl] at h;cases h;exact⟨rfl,fun i c h=>by simp at h⟩
 |d::l,W,h=>by
  rw[Qnl] at h
  cases hT:Qrw n st d with
  |inl a=>rw[hT] at h;cases h
  |inr r=>
   rw[hT] at h
   have h':(Qnl n st l).map (Qqj n d r :: ·)=some W:=h
   rw[Option.map_eq_some_iff] at h'
   obtain⟨W',h1,rfl⟩:=h'
   obtain⟨a,b⟩:=Qxc h1
   refine⟨by simp[a],fun i c hc=>?_⟩
   cases i with
   |zero=>simp at hc;subst hc;exact⟨r,hT,rfl⟩
   |succ i=>simp at hc;obtain⟨q,h2,h3⟩:=b i c hc;exact⟨q,h2,by simpa using h3⟩
theorem Q87:∀{l:List Qa1}{i:Nat},fstL i l=none→∀x∈l,¬x.Scale>0
 |[],_,_,x,h=>by cases h
 |y::l,i,h,x,hx=>by
  rw[fstL] at h
  by_cases hy:y.Scale>0
  ·rw[if_pos hy] at h;cases h
  ·rw[if_neg hy] at h
   rcases List.mem_cons.1 hx with rfl |hx
   ·exact hy
   ·exact Q87 h x hx
theorem Qvy:∀(W:List Qbt) (k:Nat),((unsL k W).1=-1∧∀w∈W,∀x∈w.Tick.Lost,¬x.Scale>0)∨((k:Int)≤(unsL k W).1∧(unsL k W).1<(k:Int)+W.length)
 |[],k=>.inl ⟨rfl,fun w h=>by cases h⟩
 |w::W,k=>by
  rw[unsL]
  cases hf:fstL 0 w.Tick.Lost with
  |some i=>exact .inr ⟨Int.le_refl _,by simp;omega⟩
  |none=>
   dsimp only
   rcases Qvy W (k+1) with ⟨a,b⟩ |⟨a,b⟩
   ·refine .inl ⟨a,fun v hv=>?_⟩
    rcases List.mem_cons.1 hv with rfl |hv
    ·exact Q87 hf
    ·exact b v hv
   ·exact .inr ⟨by omega,by simp;omega⟩
theorem Q60:∀(st:List Int) (ls:List Qa1),st.length=ls.length→(∀l∈ls,l.Scale=0)→List.zipWith (fun (d:Int) (l:Qa1)=>d+l.Scale) st ls=st
 |[],_,_,_=>rfl
 |d::st,[],h,_=>by simp at h
 |d::st,l::ls,h,h0=>by
  rw[List.zipWith_cons_cons,Q60 st ls (by simpa using h) fun q hq=>h0 q (List.mem_cons_of_mem _ hq),h0 l List.mem_cons_self,Int.add_zero]
theorem Zb5 {α β γ:Type}(f:α→β→γ) (g:α→β):∀(l:List α),List.zipWith f l (l.map g)=l.map fun p=>f p (g p)
 |[]=>rfl
 |a::l=>by rw[List.map_cons,List.zipWith_cons_cons,Zb5 f g l,List.map_cons]
theorem Qwy {n:GNet}{st:List Int}{l:List (List Qaa)}(h:Qkk n st l=0):netB n=true∧∀c∈l,Qln n st c=0:=by
 unfold Qkk at h
 cases hb:netB n&&stB n st with
 |false=>rw[hb] at h;cases h
 |true=>
  rw[hb,cond_true] at h
  cases h6:btw (l.length:Int) 1 6 with
  |false=>rw[h6] at h;cases h
  |true=>
   rw[h6,cond_true] at h
   have key:∀(l:List (List Qaa)),Qx3 n l=0→∀c∈l,fedI n c=0:=fun l=>by
    induction l with
    |nil=>intro _ c h;cases h
    |cons d l ih=>
     intro h c hc
     rw[Qx3] at h
     by_cases hd:fedI n d=0
     ·rw[if_pos hd] at h
      rcases List.mem_cons.1 hc with rfl |hc
      ·exact hd
      ·exact ih h c hc
     ·rw[if_neg hd] at h;exact absurd h hd
   rw[Bool.and_eq_true] at hb
   exact⟨hb.1,fun c hc=>by unfold Qln;rw[hb.1,hb.2];exact key l h c hc⟩
theorem Qyx {n:GNet}{st:List Int}{c:List Qaa}{r:Qxu}(h:Qln n st c=0) (ht:Qrw n st c=.inr r) (h0:∀x∈r.2.1,¬x.Scale>0):r.2.2.1=st:=by
 obtain⟨hv,hst,hf,_⟩:=Qwg h
 have hT:=Qrv hv hf hst ht
 have e1:=Qv7 hst
 have e2:=hT.inv.ll
 rw[hT.ss]
 refine Q60 st r.2.1 (by omega) fun x hx=>?_
 have:=h0 x hx
 have:=(hT.inv.l0 x hx).2.2.2
 omega
theorem Q3j {n:GNet}{st:List Int}{c:List Qaa}{r:Qxu}(ht:Qrw n st c=.inr r) (hr:r.2.2.1=st):∀(m t:Nat),Q0p n c m st t=(((t+m:Nat):Int),-1)
 |0,t=>rfl
 |m+1,t=>by
  rw[Q0p,ht]
  show Q0p n c m r.2.2.1 (t+1)=_
  rw[hr,Q3j ht hr m (t+1),show t+1+m=t+(m+1) by omega]
theorem Zuz {W:List Qbt}(hW:W≠[]) {w:Qbt}(hw:w∈W) (p:Qa6):InC (Qe3 w.Tick.Out p) W p:=
 ⟨(Q2t (Qoy p) hW).1 w hw,(Q2t (Qoz p) hW).1 w hw,(Q2t (Qin p) hW).1 w hw,(Q2t (fGas p) hW).1 w hw⟩
theorem Zbm {N:Nat}{n:GNet}(hs:Qjy n) (hN:1001≤N) {st:List Int}(hl2:st.length≤1000) {l:List (List Qaa)}(hl:l.length≤1000) (hc:∀c∈l,c.length≤1000) (hg:Qkk n st l=0) {W:List Qbt}(hW:Qnl n st l=some W) (k:List Qas→Option Bool) :
  ∀(m i:Nat),(l.drop i).length<m→i≤l.length →
  Qco N n st l ((Qh9 n).map (covW W),0) ((unsL 0 W).1,(unsL 0 W).2,0) (Qh9 n,0) k m i ((Qh9 n).map (metP W (W.take i)))=k ((Qh9 n).map (metP W W)):=by
 have hE:=Qw9 hs
 obtain⟨hv,hst,hf,h1⟩:=Qsf hg
 obtain⟨wl,wg⟩:=Qxc hW
 obtain⟨_,wo⟩:=Qpm hs hv hst hf hW
 have hne:W≠[]:=fun h=>by rw[h] at wl;simp at wl;omega
 intro m
 induction m with
 |zero=>intro i h;exact absurd h (Nat.not_lt_zero _)
 |succ m ih=>
  intro i h hi
  rw[Qco]
  cases hd:l.drop i with
  |nil=>
   have:=Qb4 hd
   rw[decide_eq_false (show ¬((i:Int)<(l.length:Int)) by omega),cond_false,List.take_of_length_le (by omega)]
  |cons c q=>
   obtain⟨hgc,hd',hlt⟩:=Qbs hd
   have hcl:=List.mem_of_getElem? hgc
   obtain⟨r,hT,hwi⟩:=wg i c hgc
   have hr:=(Qwy hg).2 c hcl
   have hw:=List.mem_of_getElem? hwi
   have hdo:doA n st c=(⟨r.1,r.2.1,r.2.2.1⟩,0,0):=by unfold doA;rw[if_pos hr,hT];rfl
   rw[decide_eq_true (show(i:Int)<(l.length:Int) by omega),cond_true,Qfi,Zn8 hs hN,Option.bind_some,Zgt N hl2,Option.bind_some,Qb6 hgc,Option.bind_some,Qs5 (hc c hcl) hN,Option.bind_some,Zu5 hs hN (hc c hcl) hl2,Option.bind_some,hdo]
   show(bif ((0:Int) != 0) then _ else Qbn _ _)=_
   rw[bne_self_eq_false,cond_false,Qfi]
   refine(Zkl N W 0 0 (Qh9 n) ⟨r.1,r.2.1,r.2.2.1⟩ 0 0 (by omega) (fun p hp=>(wo _ hw).2 p hp) (fun p _=>Zuz hne hw p) _ N 0 ((Qh9 n).map (metP W (W.take i))) (by simp;omega) (by simp) (Nat.zero_le _)).trans ?_
   rw[List.take_zero,List.nil_append,List.drop_zero,List.drop_zero,Zb5]
   have hmet:((Qh9 n).map fun p=>orA r.1 W p (metP W (W.take i) p))=(Qh9 n).map (metP W (W.take (i+1))):=by
    refine List.map_congr_left fun p _=>?_
    rw[List.take_add_one,hwi]
    exact Zkk W (W.take i) p (Qqj n c r)
   show(bif ((unsL 0 W).1==-1) then(Qkw N r.2.2.1 st).bind _ else Qco N n st l ((Qh9 n).map (covW W),0) ((unsL 0 W).1,(unsL 0 W).2,0) (Qh9 n,0) k m (w64 ((i:Int)+1)) ((Qh9 n).map fun p=>orA r.1 W p (metP W (W.take i) p)))=_
   have hnext:Qco N n st l ((Qh9 n).map (covW W),0) ((unsL 0 W).1,(unsL 0 W).2,0) (Qh9 n,0) k m (w64 ((i:Int)+1)) ((Qh9 n).map fun p=>orA r.1 W p (metP W (W.take i) p))=k ((Qh9 n).map (metP W W)):=by
    rw[hmet,Qbm (x:=(i:Int)+1) (by omega) (by omega),show(i:Int)+1=((i+1:Nat):Int) by omega]
    exact ih (i+1) (by rw[hd'];rw[hd] at h;simp at h;omega) (by omega)
   rcases Qvy W 0 with ⟨u1,u2⟩ |⟨u1,u2⟩
   ·have hsame:=Qyx hr hT (u2 _ hw)
    rw[u1,show((-1:Int)==-1)=true from rfl,cond_true,hsame,Zro hl2 hN,Option.bind_some,Bool.not_true,cond_false]
    rw[u1] at hnext
    exact hnext
   ·rw[show((unsL 0 W).1==-1)=false by simp;omega,cond_false]
    exact hnext
theorem Zms (N:Nat) (E:List Qa6) (e:Int) (y:List Qas) (hE:E.length≤1000) (hy:y.length=E.length) (ha:∀z∈y,z=⟨true,true,true,true,true,true,true,true⟩) (k:Unit→Option Bool):∀(m i:Nat),(E.drop i).length<m→i≤E.length→Qc9 N (E,e) y k m i=k ():=by
 intro m
 induction m with
 |zero=>intro i h;exact absurd h (Nat.not_lt_zero _)
 |succ m ih=>
  intro i h hi
  rw[Qc9]
  cases hd:E.drop i with
  |nil=>
   have:=Qb4 hd
   rw[decide_eq_false (show ¬((i:Int)<(E.length:Int)) by omega),cond_false]
  |cons x q=>
   obtain⟨hg,hd',hlt⟩:=Qbs hd
   have hz:y[i]? = some ⟨true,true,true,true,true,true,true,true⟩:=by
    rw[List.getElem?_eq_getElem (show i<y.length by omega),ha _ (List.getElem_mem _)]
   rw[decide_eq_true (show(i:Int)<(E.length:Int) by omega),cond_true,show(decide ((0:Int)≤(i:Int))&&decide ((i:Int).toNat<(E.length:Int).toNat))=true by simp;omega,Int.toNat_natCast,hz]
   show Qc9 N (E,e) y k m (w64 ((i:Int)+1))=_
   rw[Qbm (x:=(i:Int)+1) (by omega) (by omega),show(i:Int)+1=((i+1:Nat):Int) by omega,ih (i+1) (by rw[hd'];rw[hd] at h;simp at h;omega) (by omega)]
theorem Q6g (n:GNet) (s:List Int) (l:List (List Qaa)) (gn:Zg5 n) (_:Q59 s) (gl:Qt6 l):Qiq (n.Elements.length+s.length+l.length+2000) n s l=some true:=by
 generalize hNN:n.Elements.length+s.length+l.length+2000=N
 have hN:1001≤N:=by omega
 have hn:(n.Elements.length:Int)≤9223372036854775807:=by
  have:=gn.2.1
  rw[Q3g] at this
  omega
 have hll:l.length≤9223372036854775807:=by
  have:=gl.1
  rw[Q3g] at this
  omega
 unfold Qiq
 simp only[Zfb,Option.bind_some]
 rw[Qfi]
 rcases Zrt (N:=N) (n:=n) (l:=l) hn hll (by omega) (by omega) with e |⟨e,hs,h8,hc⟩
 ·rw[e,Option.bind_some,Bool.not_false,cond_true]
 rw[e,Option.bind_some,Bool.not_true,cond_false]
 by_cases h25:(s.length:Int)>25
 ·rw[decide_eq_true h25,cond_true]
 have s1:s.length≤1000:=by omega
 have hc':∀c∈l,c.length≤1000:=fun c h=>by have:=hc c h;omega
 have hE:=Qw9 hs
 rw[decide_eq_false h25,cond_false,Zg9 hs hN (by omega) hc' s1,Option.bind_some]
 by_cases hg:Qkk n s l=0
 ·obtain⟨hv,hst,hf,h1⟩:=Qsf hg
  obtain⟨hnb,hrd⟩:=Qwy hg
  rw[hg,show((0:Int) != 0)=false from rfl,cond_false]
  show((Qik N n).bind fun _=>_)=_
  rw[Zn8 hs hN,Option.bind_some,Zgt N s1,Option.bind_some,Zmc hN (by omega) hc',Option.bind_some,Zss hs hN (by omega) hc' s1,Option.bind_some,Option.bind_some,Option.bind_some,Option.bind_some,Zqu hs hN (by omega) hc' s1,Option.bind_some,Option.bind_some,Zhp hs hN hnb,Option.bind_some,Qfi]
  cases hd:Qnl n s l with
  |none=>
   rw[show covA n s l=([],11) by unfold covA;rw[if_pos hg,hd],show unsA n s l=(0,0,11) by unfold unsA;rw[if_pos hg,hd]]
   rfl
  |some W=>
   obtain⟨a,_⟩:=Qpm hs hv hst hf hd
   obtain⟨_,wg⟩:=Qxc hd
   have hW:W≠[]:=fun h=>by rw[h] at a;simp at a;omega
   rw[show covA n s l=((Qh9 n).map (covW W),0) by unfold covA;rw[if_pos hg,hd],show unsA n s l=((unsL 0 W).1,(unsL 0 W).2,0) by unfold unsA;rw[if_pos hg,hd]]
   show(bif ((0:Int) != 0) then _ else bif ((0:Int) != 0) then _ else(bif ((0:Int) != 0) then _ else bif ((((Qh9 n).map (covW W)).length:Int) != ((Qh9 n).length:Int)) then _ else chk _ (Qbn _ _)))=_
   rw[bne_self_eq_false,cond_false,cond_false,cond_false,List.length_map,bne_self_eq_false,cond_false,Qfi]
   rw[show(decide ((0:Int)≤((Qh9 n).length:Int))&&decide (8*((Qh9 n).length:Int)≤281474976710656)&&decide (((Qh9 n).length:Int)≤9223372036854775807))=true by simp;omega]
   have hrep:List.replicate ((Qh9 n).length:Int).toNat (⟨false,false,false,false,false,false,false,false⟩:Qas)=(Qh9 n).map (metP W (W.take 0)):=by
    rw[Int.toNat_natCast]
    exact List.map_const'.symm
   rw[hrep]
   refine(Zbm hs hN s1 (show l.length≤1000 by omega) hc' hg hd _ N 0 (by simp;omega) (Nat.zero_le _)).trans ?_
   show Qbn _ _=_
   rw[Qfi]
   refine(Zms N (Qh9 n) 0 _ (by omega) (by simp) (fun z hz=>?_) _ N 0 (by simp;omega) (Nat.zero_le _)).trans ?_
   ·obtain⟨p,_,rfl⟩:=List.mem_map.1 hz
    exact Zrk hW p
   ·rcases Qvy W 0 with ⟨u1,u2⟩ |⟨u1,u2⟩
    ·rw[u1]
     show(bif decide ((-1:Int)≥0) then _ else _)=_
     rw[show decide ((-1:Int)≥0)=false from rfl,cond_false]
     cases l with
     |nil=>simp at h1
     |cons c q=>
      obtain⟨r,hT,hwi⟩:=wg 0 c rfl
      have hr:=hrd c List.mem_cons_self
      have hsame:=Qyx hr hT (u2 _ (List.mem_of_getElem? hwi))
      rw[show getI (c::q) 0=some c from rfl,Option.bind_some,Option.bind_some,Option.bind_some,Qs5 (hc' c List.mem_cons_self) hN,Option.bind_some,Zrn hs hN (hc' c List.mem_cons_self) s1,Option.bind_some]
      have hL:lifA n s c 30=(30,-1,0):=by
       unfold lifA
       rw[if_pos hr,show btw 30 1 1000=true from rfl,cond_true,show(30:Int).toNat=30 from rfl,Q3j hT hsame 30 0]
       rfl
      rw[hL]
      rfl
    ·rw[decide_eq_true (show(unsL 0 W).1≥0 by omega),cond_true,decide_eq_true (show(unsL 0 W).1<(l.length:Int) by omega),cond_true]
 ·rw[show(Qkk n s l != 0)=true by simpa using hg,cond_true]
end
end Go.Proofs.YtmbhnllcfmiajaaGreat
