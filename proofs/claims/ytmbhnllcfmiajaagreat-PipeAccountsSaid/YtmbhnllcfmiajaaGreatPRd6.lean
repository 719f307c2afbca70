/-
  Plain laws on the document's tick: it is the program's. No conditions but validity.
-/
import Derived.Test.YtmbhnllcfmiajaaGreatPRf6
import Derived.Test.YtmbhnllcfmiajaaGreatPRs6
import Derived.Test.YtmbhnllcfmiajaaGreatPSt6
namespace Go.Proofs.YtmbhnllcfmiajaaGreat
open Go.RowKit
theorem Qyh {κ β:Type} {k:κ} {f:κ→Option β} {r:Option β} (h:∀ k',k'=k→f k'=r):Qbb k f=r:=by
 rw [Qbb]
 exact h k rfl
theorem Q7i (N:Nat) {x:GElement} (hx:Qhu x=true) {d:Int} (h0:0≤d) (h1:d≤9000000000000000000):Qj4 N x d=some (widI x d):=by
 obtain ⟨a,b,c,e,f,g,_⟩:=Zju hx h0 h1
 unfold Qj4 widI
 rw [a,b,f,g]
 rfl
section
variable {N : Nat} {n : GNet} (hs : Small n) (hN : 1001 ≤ N) (hv : NetV n) {ws : List GStream} (hf : FedV n ws) {i : Nat} {o : List (List GStream)} {ls : List GLost} (hI : InvT n ws i o ls) {x : GElement} (hx : n.Elements[i]? = some x)
include hv hI hx in
theorem Q78 (hfr:x.From.length≤25) (k:List GStream×List (List GStream)×List GLost×List Int→Option (GTick×Int×Int)) (ss:List Int):∀ (m j:Nat) (acc:List GStream),(x.From.drop j).length<m→acc.length≤100+j→j≤25 →
  Qfr N x k m acc j o ls ss=k (acc++(x.From.drop j).map (Qfh o),o,ls,ss):=by
 intro m
 induction m with
 | zero=>intro j _ h; exact absurd h (Nat.not_lt_zero _)
 | succ m ih=>
  intro j acc h ha hj
  rw [Qfr]
  cases hd:x.From.drop j with
  | nil=>
   have:=Qbx hd
   simp [show ¬ ((j:Int)<x.From.length) from by omega]
  | cons p l=>
   obtain ⟨hg,hd',hlt⟩:=Qbl hd
   have hpm:=List.mem_of_getElem? hg
   obtain ⟨p1,_,_,_,p4,_,_⟩:=hv.port i x p hx hpm
   obtain ⟨_,_,r,hr,hr2⟩:=Qn4 hv hI hx hpm
   have g1:getI o p.Element=some r:=by unfold getI; rw [if_pos p1,hr]
   have g2:getI r p.Outlet=some (Qfh o p):=by unfold getI; rw [if_pos p4,hr2]
   simp only [show decide ((j:Int)<x.From.length)=true from by simpa using hlt,cond_true,chk,Qbu hg,Option.bind_some,g1,g2]
   rw [show decide ((([]:List GStream).length+acc.length) * 32≤140737488355328)=true by simp; omega,show decide (1≤([Qfh o p]:List GStream).length)=true from rfl,show decide (((([]:List GStream)++acc).length+(([Qfh o p]:List GStream).take 1).length) * 32≤140737488355328)=true by simp; omega]
   simp only [cond_true]
   rw [Qa2 (x:=(j:Int)+1) (by omega) (by omega),show (j:Int)+1=((j+1:Nat):Int) by omega,ih (j+1) _ (by rw [hd']; rw [hd] at h; simp at h; omega) (by simp; omega) (by omega),hd']
   simp
end
section
variable {N : Nat} {n : GNet} (hs : Small n) (hN : 1001 ≤ N) (hv : NetV n) {ws : List GStream} (hf : FedV n ws) {st : List Int} (hst : StV n st)
theorem Q4b {α:Type} (a:List α) (x:α) (w:Nat) (h:a.length≤1000) (hw:w≤1000):decide ((a.length+[x].length) * w≤140737488355328)=true:=by
 rw [decide_eq_true_eq,List.length_singleton]
 have:(a.length+1) * w≤1001 * 1000:=Nat.mul_le_mul (by omega) hw
 omega
set_option maxHeartbeats 2000000 in
include hs hN hv hf hst in
theorem Q7x (k:Int×List (List GStream)×List GLost×List Int→Option (GTick×Int×Int)):∀ (m i:Nat) (o:List (List GStream)) (ls:List GLost) (ss:List Int) (y:Int),(n.Elements.drop i).length<m→i≤n.Elements.length→InvT n ws i o ls→ss.length=i→0≤y→y≤1000000 * i →
  Qfs N n st ws k m y (wcn n i:Int) i o ls ss =
  Qom (Qq2 n.Table ((n.Elements.drop i).zip (st.drop i)) (ws.drop (wcn n i)) o ls ss y) (fun a=>some (Zb5,0,(a:Int))) (fun r=>k (r.2.2.2,r.1,r.2.1,r.2.2.1)):=by
 intro m
 induction m with
 | zero=>intro i _ _ _ _ h; exact absurd h (Nat.not_lt_zero _)
 | succ m ih=>
  intro i o ls ss y h hi hI hss hy0 hy1
  have hsl:=Qvv hst
  have e0:=hs.e
  rw [Qfs]
  cases hd:n.Elements.drop i with
  | nil=>
   have:=Qbx hd
   have hi2:i=n.Elements.length:=by omega
   subst hi2
   rw [show decide ((n.Elements.length:Int)<(n.Elements.length:Int))=false by simp,cond_false,show st.drop n.Elements.length=[] from List.drop_of_length_le (by omega)]
   simp [Qq2,Qom]
  | cons x l=>
   obtain ⟨hg,hd',hlt⟩:=Qbl hd
   obtain ⟨d,hgd,d0,d1⟩:=Zjv hst hlt
   have hds:st.drop i=d::st.drop (i+1):=by
    have hi:=(List.getElem?_eq_some_iff.1 hgd).1
    rw [List.drop_eq_getElem_cons hi]
    rw [List.getElem?_eq_getElem hi] at hgd
    cases hgd; rfl
   obtain ⟨iv,it⟩:=Zdm hv hf hI hg
   have hxm:=List.mem_of_getElem? hg
   have hx:=hs.x x hxm
   have hA:=Qny (hv.alone x hxm)
   have hinl:(insE o (ws.drop (wcn n i)) x).length≤100:=by
    unfold insE
    split
    ·rw [List.length_take]; omega
    ·rw [List.length_map]; omega
   have hwid:=Q7i N (hv.alone x hxm) d0 (show d≤9000000000000000000 by omega)
   have hwl:=Q5i (n:=n) (i:=i+1)
   have hws:=Qmi hg
   have hwn:wcn n n.Elements.length≤18:=by
    unfold wcn
    have:=List.length_filter_le (fun x:GElement=>decide (x.Kind=1)) (n.Elements.take n.Elements.length)
    rw [List.take_length] at this ⊢
    omega
   have hin:∀ (j:Int×List GStream×List (List GStream)×List GLost×List Int→Option (GTick×Int×Int)),
     (bif (x.Kind==1) then chk (decide (0≤(wcn n i:Int))&&decide ((wcn n i:Int)≤w64 ((wcn n i:Int)+1))&&decide (w64 ((wcn n i:Int)+1)≤(ws.length:Int)))<|j (w64 ((wcn n i:Int)+1),(ws.drop (wcn n i:Int).toNat).take ((w64 ((wcn n i:Int)+1)).toNat - (wcn n i:Int).toNat),o,ls,ss) else j ((wcn n i:Int),[],o,ls,ss)) =
     j ((wcn n (i+1):Int),(if x.Kind=1 then (ws.drop (wcn n i)).take 1 else []),o,ls,ss):=fun j=>by
    by_cases h1:x.Kind=1
    ·rw [if_pos h1] at hws
     have hlt:wcn n i<ws.length:=by rw [hf.len]; omega
     rw [show (x.Kind==1)=true by simpa using h1,cond_true,if_pos h1,Qa2 (x:=(wcn n i:Int)+1) (by omega) (by omega),hws]
     simp only [chk]
     rw [show (decide (0≤(wcn n i:Int))&&decide ((wcn n i:Int)≤(wcn n i:Int)+1)&&decide ((wcn n i:Int)+1≤(ws.length:Int)))=true by simp; omega,cond_true,show ((wcn n i:Int)).toNat=wcn n i by omega,show ((wcn n i:Int)+1).toNat - wcn n i=1 by omega]
     rfl
    ·rw [if_neg h1] at hws
     rw [show (x.Kind==1)=false by simpa using h1,cond_false,if_neg h1,hws]
     rfl
   simp only [show decide ((i:Int)<n.Elements.length)=true from by simpa using hlt,cond_true,Qbu hg,Option.bind_some]
   refine Qyh fun k25 h25=>?_
   refine Qyh fun k35 h35=>?_
   refine (hin k35).trans ?_
   rw [h35]
   dsimp only
   refine Qyh fun k40 h40=>?_
   have hfl:(if x.Kind=1 then (ws.drop (wcn n i)).take 1 else ([]:List GStream)).length≤1:=by
    split
    ·rw [List.length_take]; omega
    ·simp
   refine (Q78 (N:=N) hv hI hg hx.1 k40 ss N 0 _ (by simp; omega) (by omega) (by omega)).trans ?_
   have hins:(if x.Kind=1 then (ws.drop (wcn n i)).take 1 else ([]:List GStream))++(x.From.drop 0).map (Qfh o)=insE o (ws.drop (wcn n i)) x:=by
    unfold insE
    by_cases h1:x.Kind=1
    ·rw [if_pos h1,if_pos h1,hA.well h1]; simp
    ·rw [if_neg h1,if_neg h1]; simp
   rw [hins,h40]
   dsimp only
   have htot:Qgx N (insE o (ws.drop (wcn n i)) x)=some (totS (insE o (ws.drop (wcn n i)) x)):=by rw [Qth (by omega) hN,Qkz iv (by omega)]
   rw [htot,Option.bind_some,Qbu hgd,Option.bind_some,hwid,Option.bind_some,hds,List.zip_cons_cons,Qq2]
   have hK:=Qyk hv hf hI hg
   have hI2:=Qyj hv hf hI hg hK
   generalize totS (insE o (ws.drop (wcn n i)) x)=s at *
   by_cases hm:s.Mass>widI x d
   ·rw [if_pos hm,decide_eq_true hm,cond_true,hI.lo]
    rfl
   rw [if_neg hm,decide_eq_false hm,cond_false]
   have hw:ws.drop (wcn n (i+1))=if x.Kind=1 then (ws.drop (wcn n i)).drop 1 else ws.drop (wcn n i):=by
    rw [hws]
    split
    ·rw [List.drop_drop]
    ·rfl
   rw [← hw]
   have hlo:=hI.lo
   have hll:=hI.ll
   have hq:=hK.q
   have hqq:=hK.q0
   have hc0:=hK.c0
   have ht0:=hK.t0
   have ht1:=hK.t1
   have hsq:=it.s1
   have hsm:=it.m1
   have hvs:=(Qlr hK.v).s0
   have hih:=ih (i+1) _ _ (ss++[d+(actE n.Table x s).2.1.Scale]) (y+(actE n.Table x s).2.2) (by rw [hd']; rw [hd] at h; simp at h; omega) hlt hI2 (by simp [hss]) (by omega) (by omega)
   rw [hd'] at hih
   have fin:∀ (O:List GStream) (L:GLost) (Y:Int),(O,L,Y)=actE n.Table x s →
     (chk (decide ((o.length+([O]).length) * 24≤140737488355328))<|
      chk (decide (1≤([(⟨L.Heat,L.Silica,L.Gas,L.Scale⟩:GLost)]).length))<|
      chk (decide ((ls.length+(([(⟨L.Heat,L.Silica,L.Gas,L.Scale⟩:GLost)]).take 1).length) * 32≤140737488355328))<|
      chk (decide ((ss.length+([w64 (d+L.Scale)]).length) * 8≤140737488355328))<|
      k25 (y+Y,(wcn n (i+1):Int),o++([O]),ls++(([(⟨L.Heat,L.Silica,L.Gas,L.Scale⟩:GLost)]).take 1),ss++([w64 (d+L.Scale)]))) =
     Qom (Qq2 n.Table (l.zip (st.drop (i+1))) (ws.drop (wcn n (i+1))) (o++[(actE n.Table x s).1]) (ls++[(actE n.Table x s).2.1]) (ss++[d+(actE n.Table x s).2.1.Scale]) (y+(actE n.Table x s).2.2)) (fun a=>some (Zb5,0,(a:Int))) (fun r=>k (r.2.2.2,r.1,r.2.1,r.2.2.1)):=fun O L Y e=>by
    rw [← hih,← e,h25]
    rw [← e] at hq hqq hc0 hvs
    dsimp only at hq hqq hc0 hvs
    dsimp only
    rw [Qa2 (x:=d+L.Scale) (by omega) (by omega),Qa2 (x:=(i:Int)+1) (by omega) (by omega),show (i:Int)+1=((i+1:Nat):Int) by omega]
    simp only [chk]
    rw [Q4b o O 24 (by omega) (by omega),show decide (1≤([(⟨L.Heat,L.Silica,L.Gas,L.Scale⟩:GLost)]).length)=true from rfl,show ([(⟨L.Heat,L.Silica,L.Gas,L.Scale⟩:GLost)]).take 1=[L] from rfl,Q4b ls L 32 (by omega) (by omega),Q4b ss _ 8 (by omega) (by omega)]
    rfl
   by_cases h3:x.Kind=3
   ·have e:actE n.Table x s=([⟨s.Mass,s.Heat - Qmw x s,s.Silica,s.Gas⟩],⟨Qmw x s,0,0,0⟩,0):=by unfold actE; rw [if_pos h3]
    have hc:0≤Qmw x s∧Qmw x s≤s.Heat:=by
     have:=hA.a3 h3
     have:=it.h0
     unfold Qmw; split<;>omega
    have:=it.h1
    have hcl:(if s.Heat<x.Amount then s.Heat else x.Amount)=Qmw x s:=rfl
    refine Eq.trans ?_ (fin _ _ _ e.symm)
    rw [show (x.Kind==3)=true by simpa using h3,show (x.Kind==4)=false by rw [h3]; rfl,show (x.Kind==5)=false by rw [h3]; rfl]
    simp only [Qbb,cond_true,cond_false,hcl,chk,Int.add_zero]
    rw [Qa2 (x:=s.Heat - Qmw x s) (by omega) (by omega)]
    rfl
   by_cases h4:x.Kind=4
   ·have hlv:=hv.level x hxm
    obtain ⟨hgr,hrow⟩:=Q5m hv.tab (Qfw.2 hlv)
    have hgr':getI n.Table x.Level=some (Qeq n.Table x.Level):=hgr
    have hk:=Qym (r:=Qeq n.Table x.Level) hrow it
    have hfr:Qih N (Qeq n.Table x.Level) s=some (flG (Qeq n.Table x.Level) s):=Q3c N hrow it
    have k1:=hk.km
    have k2:=hk.st.m0
    have k3:=hk.wa.m0
    rw [show (x.Kind==3)=false by rw [h4]; rfl,show (x.Kind==4)=true by simpa using h4,show (x.Kind==5)=false by rw [h4]; rfl]
    simp only [Qbb,cond_true,cond_false,hgr',Option.bind_some,hfr]
    rw [Qa2 (x:=y+(flG (Qeq n.Table x.Level) s).Steam.Mass) (by omega) (by omega)]
    by_cases h0:x.Amount=0
    ·have ha:actE n.Table x s=([(flG (Qeq n.Table x.Level) s).Steam,(flG (Qeq n.Table x.Level) s).Water],⟨0,0,0,(flG (Qeq n.Table x.Level) s).Scale⟩,(flG (Qeq n.Table x.Level) s).Steam.Mass):=by
      unfold actE
      rw [if_neg h3,if_pos h4,if_pos h0]
     rw [decide_eq_false (show ¬ x.Amount>0 by omega),cond_false]
     have:=fin _ _ _ ha.symm
     clear fin hih
     generalize flG (Qeq n.Table x.Level) s=p at this ⊢
     exact this
    ·have hav:=hA.a4 h4
     have hwt:=Q23 (a:=x.Amount) (by omega) hav.2
     have ha:actE n.Table x s=([totS [(flG (Qeq n.Table x.Level) s).Steam,(Qgn (flG (Qeq n.Table x.Level) s).Water [1000 - x.Amount,x.Amount]).getD 1 zs],(Qgn (flG (Qeq n.Table x.Level) s).Water [1000 - x.Amount,x.Amount]).getD 0 zs],
      ⟨(Qi5 (flG (Qeq n.Table x.Level) s).Water [1000 - x.Amount,x.Amount]).Heat,(Qi5 (flG (Qeq n.Table x.Level) s).Water [1000 - x.Amount,x.Amount]).Silica,(Qi5 (flG (Qeq n.Table x.Level) s).Water [1000 - x.Amount,x.Amount]).Gas,(flG (Qeq n.Table x.Level) s).Scale⟩,(flG (Qeq n.Table x.Level) s).Steam.Mass):=by
      unfold actE
      rw [if_neg h3,if_pos h4,if_neg h0]
     rw [decide_eq_true (show x.Amount>0 by omega),cond_true,Qa2 (x:=1000 - x.Amount) (by omega) (by omega)]
     have hsh:Qhp N (flG (Qeq n.Table x.Level) s).Water [1000 - x.Amount,x.Amount]=_:=Qz7 (N:=N) hk.wa hwt hN
     obtain ⟨u,v,hp⟩:=Qte (s:=(flG (Qeq n.Table x.Level) s).Water) (a:=1000 - x.Amount) (b:=x.Amount)
     have hKp:=Qik hk.wa hwt
     rw [hp] at hsh hKp ha
     have htot2:Qgx N [(flG (Qeq n.Table x.Level) s).Steam,v]=some (totS [(flG (Qeq n.Table x.Level) s).Steam,v]):=by
      rw [Qth (by simp) hN,Qkz (fun z hz=>by
       simp at hz
       rcases hz with rfl | rfl
       ·exact hk.st
       ·exact hKp.v _ (by simp)) (by simp)]
     refine (congrArg (fun z=>Option.bind z _) hsh).trans ?_
     simp only [Option.bind_some,show getI [u,v] 1=some v from rfl,show getI [u,v] 0=some u from rfl]
     refine (congrArg (fun z=>Option.bind z _) htot2).trans ?_
     have:=fin _ _ _ ha.symm
     clear fin hih
     exact this
   by_cases h5:x.Kind=5
   ·have e:actE n.Table x s=(Qgn s x.Weights,⟨(Qi5 s x.Weights).Heat,(Qi5 s x.Weights).Silica,(Qi5 s x.Weights).Gas,0⟩,0):=by unfold actE; rw [if_neg h3,if_neg h4,if_pos h5]
    have hsh:=Qz7 (N:=N) it (hA.w5 h5) hN
    rw [show (x.Kind==3)=false by rw [h5]; rfl,show (x.Kind==4)=false by rw [h5]; rfl,show (x.Kind==5)=true by simpa using h5]
    simp only [Qbb,cond_true,cond_false,chk,show decide (1≤([s]:List GStream).length)=true from rfl,hsh,Option.bind_some]
    have:=fin _ _ _ e.symm
    rw [Int.add_zero y] at this
    exact this
   ·have e:actE n.Table x s=([s],⟨0,0,0,0⟩,0):=by unfold actE; rw [if_neg h3,if_neg h4,if_neg h5]
    rw [show (x.Kind==3)=false by simpa using h3,show (x.Kind==4)=false by simpa using h4,show (x.Kind==5)=false by simpa using h5]
    simp only [Qbb,cond_false,chk,show decide (1≤([s]:List GStream).length)=true from rfl,cond_true]
    have:=fin _ _ _ e.symm
    rw [Int.add_zero y] at this
    exact this
include hs hN hv hf hst in
theorem Zge:Qnl N n st ws=some (Qom (Qsa n st ws) (fun a=>(Zb5,0,(a:Int))) (fun r=>(⟨r.1,r.2.1,r.2.2.1⟩,r.2.2.2,-1))):=by
 have e0:=hs.e
 unfold Qnl
 simp only [Qbb]
 have:=Q7x hs hN hv hf hst (fun x=>match x with | (y1,y2,y3,y4)=>some ((⟨y2,y3,y4⟩:GTick),y1,(-1))) N 0 [] [] [] 0 (by simp; omega) (Nat.zero_le _) (Quc n ws) rfl (Int.le_refl _) (by simp)
 simp only [List.drop_zero,show wcn n 0=0 from rfl] at this
 refine this.trans ?_
 unfold Qsa
 cases Qq2 n.Table (n.Elements.zip st) ws [] [] [] 0<;>rfl
end
end Go.Proofs.YtmbhnllcfmiajaaGreat
