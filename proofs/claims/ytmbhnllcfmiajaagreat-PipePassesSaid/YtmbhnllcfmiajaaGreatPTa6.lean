/-
  Plain laws on a tick: what an element does, and what is kept. No conditions but validity.
-/
import Derived.Test.YtmbhnllcfmiajaaGreatPSc6
import Derived.Test.YtmbhnllcfmiajaaGreatPE6
namespace Go.Proofs.YtmbhnllcfmiajaaGreat
open Go.RowKit
def zs:GStream:=⟨0,0,0,0⟩
def Qgt (t:List GRow) (l:Int):GRow:=(getI t l).getD ⟨0,0,0,0,0⟩
def Qpj (x:GElement) (s:GStream):Int:=if s.Heat<x.Amount then s.Heat else x.Amount
def actE (t:List GRow) (x:GElement) (s:GStream):List GStream×GLost×Int:=
 if x.Kind=3 then ([⟨s.Mass,s.Heat - Qpj x s,s.Silica,s.Gas⟩],⟨Qpj x s,0,0,0⟩,0)
 else if x.Kind=4 then
  if x.Amount=0 then ([(flG (Qgt t x.Level) s).Steam,(flG (Qgt t x.Level) s).Water],⟨0,0,0,(flG (Qgt t x.Level) s).Scale⟩,(flG (Qgt t x.Level) s).Steam.Mass)
  else ([totS [(flG (Qgt t x.Level) s).Steam,(Qgu (flG (Qgt t x.Level) s).Water [1000 - x.Amount,x.Amount]).getD 1 zs],(Qgu (flG (Qgt t x.Level) s).Water [1000 - x.Amount,x.Amount]).getD 0 zs],
   ⟨(Qkj (flG (Qgt t x.Level) s).Water [1000 - x.Amount,x.Amount]).Heat,(Qkj (flG (Qgt t x.Level) s).Water [1000 - x.Amount,x.Amount]).Silica,(Qkj (flG (Qgt t x.Level) s).Water [1000 - x.Amount,x.Amount]).Gas,(flG (Qgt t x.Level) s).Scale⟩,(flG (Qgt t x.Level) s).Steam.Mass)
 else if x.Kind=5 then (Qgu s x.Weights,⟨(Qkj s x.Weights).Heat,(Qkj s x.Weights).Silica,(Qkj s x.Weights).Gas,0⟩,0)
 else ([s],⟨0,0,0,0⟩,0)
structure KeptA (x:GElement) (s:GStream) (a:List GStream×GLost×Int):Prop where
 v:∀ y ∈ a.1,StrV y
 len:(a.1.length:Int)=outl x
 m:(totS a.1).Mass=s.Mass
 h:(totS a.1).Heat+a.2.1.Heat=s.Heat
 q:(totS a.1).Silica+a.2.1.Silica+a.2.1.Scale=s.Silica
 g:(totS a.1).Gas+a.2.1.Gas=s.Gas
 h0:0≤a.2.1.Heat
 q0:0≤a.2.1.Silica
 g0:0≤a.2.1.Gas
 c0:0≤a.2.1.Scale
 t0:0≤a.2.2
 t1:a.2.2≤1000000
structure AloneV (x:GElement):Prop where
 k:1≤x.Kind∧x.Kind≤6
 well:x.Kind=1→x.From=[]
 a3:x.Kind=3→0≤x.Amount
 a4:x.Kind=4→0≤x.Amount∧x.Amount≤1000
 w5:x.Kind=5→WtsV x.Weights
theorem Ql3 {x:GElement} (h:Qfw x=true):AloneV x:=by
 unfold Qfw at h
 simp only [Bool.and_eq_true] at h
 obtain ⟨⟨⟨⟨⟨h1,_⟩,_⟩,h4⟩,h5⟩,h6⟩:=h
 refine ⟨Qeq.1 h1,fun e=>?_,fun e=>?_,fun e=>?_,fun e=>?_⟩
 ·rw [e] at h4
  obtain ⟨_,h7⟩:=Qeq.1 h4
  rw [if_pos rfl] at h7
  exact List.length_eq_zero_iff.1 (by omega)
 ·rw [e] at h5
  have:=Qeq.1 h5
  exact this.1
 ·rw [e] at h5
  have:=Qeq.1 h5
  simpa using this
 ·rw [e] at h6
  exact Zib (by simpa using h6)
theorem Q70 {a:Int} (h0:0<a) (h1:a≤1000):WtsV [1000 - a,a]:=
 ⟨by simp,by simp,fun x hx=>by simp at hx; rcases hx with rfl | rfl<;>omega,⟨a,by simp,h0⟩⟩
theorem Qwu {s:GStream} {a b:Int}:∃ p q,Qgu s [a,b]=[p,q]:=by
 have:(Qgu s [a,b]).length=2:=by unfold Qgu; rw [List.length_map,Qgv]; rfl
 match h:Qgu s [a,b],this with
 | [p,q],_=>exact ⟨p,q,rfl⟩
theorem Q3d {t:List GRow} (ht:tabB t=true) {x:GElement} (hx:AloneV x) (hl:0≤x.Level∧x.Level≤(t.length:Int) - 1) {s:GStream} (hs:StrV s):KeptA x s (actE t x s):=by
 have hs':=hs
 obtain ⟨a1,a2,a3,a4,a5,a6,a7,a8⟩:=hs'
 unfold actE
 by_cases h3:x.Kind=3
 ·rw [if_pos h3]
  have hc:0≤Qpj x s∧Qpj x s≤s.Heat:=by
   have:=hx.a3 h3
   unfold Qpj; split<;>omega
  refine ⟨fun y hy=>?_,?_,?_,?_,?_,?_,?_,?_,?_,?_,?_,?_⟩
  ·simp at hy; subst hy
   exact ⟨a1,a2,by dsimp only; omega,by dsimp only; omega,a5,a6,a7,a8⟩
  ·simp [outl,h3]
  all_goals (try rw [Qj9])
  all_goals (dsimp only; omega)
 ·rw [if_neg h3]
  by_cases h4:x.Kind=4
  ·rw [if_pos h4]
   have hrow:=(Q8e ht (Qeq.2 hl)).2
   have hk:=Q2q (r:=Qgt t x.Level) hrow hs
   generalize flG (Qgt t x.Level) s=p at hk
   obtain ⟨k1,k2,k3,k4,k5,k6,k7,k8⟩:=hk
   have k1':=k1
   obtain ⟨b1,b2,b3,b4,b5,b6,b7,b8⟩:=k1'
   have k2':=k2
   obtain ⟨c1,c2,c3,c4,c5,c6,c7,c8⟩:=k2'
   by_cases h0:x.Amount=0
   ·rw [if_pos h0]
    refine ⟨fun y hy=>?_,?_,?_,?_,?_,?_,?_,?_,?_,?_,?_,?_⟩
    ·simp at hy; rcases hy with rfl | rfl<;>assumption
    ·simp [outl,h4]
    all_goals (try rw [Qlq,Qj9])
    all_goals (dsimp only; omega)
   ·rw [if_neg h0]
    have ha:=hx.a4 h4
    have hw:=Q70 (a:=x.Amount) (by omega) ha.2
    obtain ⟨u,v,hp⟩:=Qwu (s:=p.Water) (a:=1000 - x.Amount) (b:=x.Amount)
    have hK:=Qkw k2 hw
    rw [hp] at hK ⊢
    simp only [show ([u,v]:List GStream).getD 1 zs=v from rfl,show ([u,v]:List GStream).getD 0 zs=u from rfl]
    generalize Qkj p.Water [1000 - x.Amount,x.Amount]=L at hK ⊢
    obtain ⟨d0,d1,d2,d3,d4,d5,d6,d7⟩:=hK
    have hu:=d0 u (by simp)
    have hv:=d0 v (by simp)
    rw [Qlq,Qj9] at d1 d2 d3 d4
    dsimp only at d1 d2 d3 d4
    obtain ⟨e1,e2,e3,e4,e5,e6,e7,e8⟩:=hu
    obtain ⟨f1,f2,f3,f4,f5,f6,f7,f8⟩:=hv
    have et:totS [p.Steam,v]=⟨p.Steam.Mass+v.Mass,p.Steam.Heat+v.Heat,p.Steam.Silica+v.Silica,p.Steam.Gas+v.Gas⟩:=by rw [Qlq,Qj9]
    rw [et]
    refine ⟨fun y hy=>?_,?_,?_,?_,?_,?_,?_,?_,?_,?_,?_,?_⟩
    ·simp at hy
     rcases hy with rfl | rfl
     ·refine ⟨?_,?_,?_,?_,?_,?_,?_,?_⟩<;>dsimp only<;>omega
     ·exact ⟨e1,e2,e3,e4,e5,e6,e7,e8⟩
    ·simp [outl,h4]
    all_goals (try rw [Qlq,Qj9])
    all_goals (dsimp only; omega)
  ·rw [if_neg h4]
   by_cases h5:x.Kind=5
   ·rw [if_pos h5]
    have hw:=hx.w5 h5
    have hK:=Qkw hs hw
    have hlen:(Qgu s x.Weights).length=x.Weights.length:=by unfold Qgu; rw [List.length_map,Qgv]
    generalize Qgu s x.Weights=o at hK hlen ⊢
    generalize Qkj s x.Weights=L at hK ⊢
    obtain ⟨d0,d1,d2,d3,d4,d5,d6,d7⟩:=hK
    refine ⟨d0,by simp [outl,h5,hlen],d1,d2,?_,d4,d5,d6,d7,?_,?_,?_⟩<;>dsimp only<;>omega
   ·rw [if_neg h5]
    refine ⟨fun y hy=>?_,?_,?_,?_,?_,?_,?_,?_,?_,?_,?_,?_⟩
    ·simp at hy; subst hy; exact hs
    ·simp [outl,h4,h5]
    all_goals (try rw [Qj9])
    all_goals (dsimp only; omega)
def Qgd (o:List (List GStream)) (p:GPort):GStream:=((o.getD p.Element.toNat []).getD p.Outlet.toNat zs)
def insE (o:List (List GStream)) (ws:List GStream) (x:GElement):List GStream:=if x.Kind=1 then ws.take 1 else x.From.map (Qgd o)
def Qhn (t:List GRow):List (GElement×Int)→List GStream→List (List GStream)→List GLost→List Int→Int→Nat⊕(List (List GStream)×List GLost×List Int×Int)
 | [],_,o,ls,ss,y=>.inr (o,ls,ss,y)
 | (x,d)::l,ws,o,ls,ss,y=>
  if (totS (insE o ws x)).Mass>widI x d then .inl o.length
  else Qhn t l (if x.Kind=1 then ws.drop 1 else ws) (o++[(actE t x (totS (insE o ws x))).1]) (ls++[(actE t x (totS (insE o ws x))).2.1]) (ss++[d+(actE t x (totS (insE o ws x))).2.1.Scale]) (y+(actE t x (totS (insE o ws x))).2.2)
def Qh7 (n:GNet) (i:Nat):List (Int×Int):=(n.Elements.take i).flatMap fun x=>x.From.map pq
def wcn (n:GNet) (i:Nat):Nat:=((n.Elements.take i).filter fun x=>decide (x.Kind=1)).length
structure FedV (n:GNet) (ws:List GStream):Prop where
 len:ws.length=wcn n n.Elements.length
 v:∀ s ∈ ws,StrV s
 m:(totS ws).Mass≤1000000
 g:(totS ws).Gas≤1000000000
structure InvT (n:GNet) (ws:List GStream) (i:Nat) (o:List (List GStream)) (ls:List GLost):Prop where
 lo:o.length=i
 ll:ls.length=i
 rows:∀ (k:Nat) y r,n.Elements[k]? = some y→o[k]? = some r→(r.length:Int)=outl y
 v:∀ r ∈ o,∀ s ∈ r,StrV s
 m:Qgm (fun s=>s.Mass) (Qh7 n i) (Qhe 0 o)=(totS (ws.take (wcn n i))).Mass
 h:Qgm (fun s=>s.Heat) (Qh7 n i) (Qhe 0 o)+(ls.map fun l=>l.Heat).sum=(totS (ws.take (wcn n i))).Heat
 q:Qgm (fun s=>s.Silica) (Qh7 n i) (Qhe 0 o)+(ls.map fun l=>l.Silica).sum+(ls.map fun l=>l.Scale).sum=(totS (ws.take (wcn n i))).Silica
 g:Qgm (fun s=>s.Gas) (Qh7 n i) (Qhe 0 o)+(ls.map fun l=>l.Gas).sum=(totS (ws.take (wcn n i))).Gas
 l0:∀ l ∈ ls,0≤l.Heat∧0≤l.Silica∧0≤l.Gas∧0≤l.Scale
theorem Qrw (n:GNet) (ws:List GStream):InvT n ws 0 [] []:=
 ⟨rfl,rfl,fun k y r _ h=>by simp at h,fun r h=>by simp at h,by simp [Qgm,Qhe,wcn,totS],by simp [Qgm,Qhe,wcn,totS],by simp [Qgm,Qhe,wcn,totS],by simp [Qgm,Qhe,wcn,totS],fun l h=>by simp at h⟩
theorem Qka {α:Type} {l:List α} {i:Nat} {x:α} (h:l[i]? = some x):l.take (i+1)=l.take i++[x]:=by rw [List.take_add_one,h]; rfl
theorem Qzb {n:GNet} {i:Nat} {x:GElement} (h:n.Elements[i]? = some x):Qh7 n (i+1)=Qh7 n i++x.From.map pq:=by
 unfold Qh7
 rw [Qka h,List.flatMap_append]
 simp
theorem Qk5 {n:GNet} {i:Nat} {x:GElement} (h:n.Elements[i]? = some x):wcn n (i+1)=wcn n i+if x.Kind=1 then 1 else 0:=by
 unfold wcn
 rw [Qka h,List.filter_append,List.length_append]
 by_cases hk:x.Kind=1<;>simp [hk]
theorem Q7z {n:GNet} {i:Nat}:wcn n i≤wcn n n.Elements.length:=by
 unfold wcn
 rw [List.take_length]
 exact ((List.take_sublist i n.Elements).filter _).length_le
section
variable {n : GNet} (hv : NetV n) {ws : List GStream} (hf : FedV n ws) {i : Nat} {o : List (List GStream)} {ls : List GLost} (hI : InvT n ws i o ls) {x : GElement} (hx : n.Elements[i]? = some x)
include hv hI hx in
theorem Ql8 {p:GPort} (hp:p ∈ x.From):(pq p,Qgd o p) ∈ Qhe 0 o∧StrV (Qgd o p)∧(∃ r,o[p.Element.toNat]? = some r∧r[p.Outlet.toNat]? = some (Qgd o p)):=by
 obtain ⟨h1,h2,y,h3,h4,h5,_⟩:=hv.port i x p hx hp
 have hlt:p.Element.toNat<o.length:=by rw [hI.lo]; omega
 have hr:o[p.Element.toNat]? = some (o[p.Element.toNat]):=List.getElem?_eq_getElem hlt
 have hl:=hI.rows _ y _ h3 hr
 have hlt2:p.Outlet.toNat<(o[p.Element.toNat]).length:=by omega
 have hs:(o[p.Element.toNat])[p.Outlet.toNat]? = some ((o[p.Element.toNat])[p.Outlet.toNat]):=List.getElem?_eq_getElem hlt2
 have e:Qgd o p=(o[p.Element.toNat])[p.Outlet.toNat]:=by
  unfold Qgd
  rw [List.getD_eq_getElem?_getD,List.getD_eq_getElem?_getD,hr,Option.getD_some,hs,Option.getD_some]
 rw [e]
 refine ⟨Qoa.2 ⟨by simpa using h1,h4,_,?_,hs⟩,hI.v _ (List.getElem_mem hlt) _ (List.getElem_mem hlt2),_,hr,hs⟩
 rw [show (p.Element - ((0:Nat):Int)).toNat=p.Element.toNat by simp]
 exact hr
include hv hx in
theorem Q4q:(x.From.map pq).Nodup∧∀ p ∈ x.From.map pq,p ∉ Qh7 n i:=by
 have hd:=hv.dist
 have hi:=(List.getElem?_eq_some_iff.1 hx).1
 have e:n.Elements=n.Elements.take i++x::n.Elements.drop (i+1):=by
  rw [← List.take_append_drop i n.Elements]
  congr 1
  ·simp
  ·rw [List.take_append_drop,List.drop_eq_getElem_cons hi]
   rw [List.getElem?_eq_getElem hi] at hx
   cases hx
   rfl
 rw [e,List.flatMap_append,List.flatMap_cons,List.nodup_append,List.nodup_append] at hd
 obtain ⟨_,⟨h2,_,_⟩,h3⟩:=hd
 exact ⟨h2,fun p hp hu=>h3 p hu p (List.mem_append_left _ hp) rfl⟩
include hv hI hx in
theorem Qq4 (f:GStream→Int):Qgm f (Qh7 n (i+1)) (Qhe 0 o)=Qgm f (Qh7 n i) (Qhe 0 o) - ((x.From.map (Qgd o)).map f).sum:=by
 obtain ⟨h1,h2⟩:=Q4q hv hx
 rw [Qzb hx,Qro (V:=x.From.map pq++Qh7 n i) (fun y _=>by simp [or_comm])]
 refine Qrn f (Qr6 o 0) _ _ _ (by simp) (fun j p s hp hs=>?_) h1 h2
 rw [List.getElem?_map,Option.map_eq_some_iff] at hp hs
 obtain ⟨a,ha,rfl⟩:=hp
 obtain ⟨b,hb,rfl⟩:=hs
 rw [ha] at hb
 cases hb
 exact (Ql8 hv hI hx (List.mem_of_getElem? ha)).1
include hv in
theorem Zci (f:GStream→Int) (r:List GStream) (hlo:o.length=i):Qgm f (Qh7 n (i+1)) (Qhe 0 (o++[r]))=Qgm f (Qh7 n (i+1)) (Qhe 0 o)+(r.map f).sum:=by
 rw [Qpx,Qxg,Nat.zero_add,hlo,Qxs]
 congr 1
 refine Qxf f (fun p hp=>?_) r 0
 unfold Qh7 at hp
 obtain ⟨y,hy,hp⟩:=List.mem_flatMap.1 hp
 obtain ⟨q,hq,rfl⟩:=List.mem_map.1 hp
 obtain ⟨k,hk,e⟩:=List.mem_take_iff_getElem.1 hy
 have:=(hv.port k y q (by rw [← e]; exact List.getElem?_eq_getElem (by omega)) hq).2.1
 intro he
 have:(pq q).1=q.Element:=rfl
 omega
include hI in
theorem Q8v (f:GStream→Int) (hf0:∀ s,StrV s→0≤f s) (U:List (Int×Int)):0≤Qgm f U (Qhe 0 o):=by
 refine Qpv fun y hy=>?_
 obtain ⟨⟨a,b⟩,s⟩:=y
 obtain ⟨_,_,r,h1,h2⟩:=Qoa.1 hy
 exact hf0 _ (hI.v r (List.mem_of_getElem? h1) s (List.mem_of_getElem? h2))
include hf in
theorem Q11 (k:Nat):(totS (ws.take k)).Mass≤1000000∧(totS (ws.take k)).Gas≤1000000000:=by
 have h:=Qze (ws.take k) (ws.drop k)
 rw [List.take_append_drop] at h
 have hm:=hf.m
 have hg:=hf.g
 rw [h] at hm hg
 have hd:=Qo0 fun s hs=>hf.v s (List.mem_of_mem_drop (i:=k) hs)
 have:=hd.m0
 have:=hd.g0
 dsimp only at hm hg
 omega
theorem Qmv {α:Type} (f:α→Int):∀ (l:List α),(∀ x ∈ l,0≤f x)→0≤(l.map f).sum
 | [],_=>by simp
 | x::l,h=>by
  have h1:=Qmv f l fun y hy=>h y (List.mem_cons_of_mem x hy)
  have h2:=h x List.mem_cons_self
  simp only [List.map_cons,List.sum_cons]
  omega
include hv hf hI hx in
theorem Zfz:(∀ s ∈ insE o (ws.drop (wcn n i)) x,StrV s)∧StrV (totS (insE o (ws.drop (wcn n i)) x)):=by
 have hxm:=List.mem_of_getElem? hx
 by_cases h1:x.Kind=1
 ·have e:insE o (ws.drop (wcn n i)) x=(ws.drop (wcn n i)).take 1:=by unfold insE; rw [if_pos h1]
  rw [e]
  have hw:=Qk5 hx
  rw [if_pos h1] at hw
  have hle:=Q7z (n:=n) (i:=i+1)
  have hlt:wcn n i<ws.length:=by rw [hf.len]; omega
  rw [List.drop_eq_getElem_cons hlt]
  have hs:=hf.v _ (List.getElem_mem hlt)
  rw [List.take_succ_cons,List.take_zero,Qj9]
  exact ⟨fun s h=>by rw [List.mem_singleton] at h; rw [h]; exact hs,hs⟩
 ·have e:insE o (ws.drop (wcn n i)) x=x.From.map (Qgd o):=by unfold insE; rw [if_neg h1]
  rw [e]
  have hall:∀ s ∈ x.From.map (Qgd o),StrV s:=fun s hs=>by
   obtain ⟨p,hp,rfl⟩:=List.mem_map.1 hs
   exact (Ql8 hv hI hx hp).2.1
  refine ⟨hall,Zby hall ?_ ?_⟩
  ·have h2:=Qq4 hv hI hx (fun s=>s.Mass)
   have h3:=Q8v hI (fun s=>s.Mass) (fun s hs=>hs.m0) (Qh7 n (i+1))
   have h4:=(Q11 hf (wcn n i)).1
   rw [← hI.m] at h4
   show ((x.From.map (Qgd o)).map fun s=>s.Mass).sum≤_
   omega
  ·have h2:=Qq4 hv hI hx (fun s=>s.Gas)
   have h3:=Q8v hI (fun s=>s.Gas) (fun s hs=>hs.g0) (Qh7 n (i+1))
   have h4:=(Q11 hf (wcn n i)).2
   have h5:=Qmv (fun l:GLost=>l.Gas) ls fun l hl=>(hI.l0 l hl).2.2.1
   rw [← hI.g] at h4
   show ((x.From.map (Qgd o)).map fun s=>s.Gas).sum≤_
   omega
include hv hf hI hx in
theorem Qqo (f:GStream→Int) (hf1:∀ l m:List GStream,((l++m).map f).sum=(l.map f).sum+(m.map f).sum) (r:List GStream) :
  Qgm f (Qh7 n (i+1)) (Qhe 0 (o++[r]))=Qgm f (Qh7 n i) (Qhe 0 o)+((ws.take (wcn n (i+1))).map f).sum - ((ws.take (wcn n i)).map f).sum - ((insE o (ws.drop (wcn n i)) x).map f).sum+(r.map f).sum:=by
 rw [Zci hv f r hI.lo,Qq4 hv hI hx f]
 by_cases h1:x.Kind=1
 ·have e:insE o (ws.drop (wcn n i)) x=(ws.drop (wcn n i)).take 1:=by unfold insE; rw [if_pos h1]
  have hw:=Qk5 hx
  rw [if_pos h1] at hw
  have hle:=Q7z (n:=n) (i:=i+1)
  have hlt:wcn n i<ws.length:=by rw [hf.len]; omega
  have hfr:=(Ql3 (hv.alone x (List.mem_of_getElem? hx))).well h1
  rw [e,hfr,hw,Qka (List.getElem?_eq_getElem hlt),hf1,List.drop_eq_getElem_cons hlt]
  simp only [List.map_nil,List.sum_nil,List.take_succ_cons,List.take_zero,List.map_cons,List.sum_cons]
  omega
 ·have e:insE o (ws.drop (wcn n i)) x=x.From.map (Qgd o):=by unfold insE; rw [if_neg h1]
  have hw:=Qk5 hx
  rw [if_neg h1] at hw
  rw [e,hw,Nat.add_zero]
  omega
include hv hf hI hx in
theorem Qvo {a:List GStream×GLost×Int} (ha:KeptA x (totS (insE o (ws.drop (wcn n i)) x)) a):InvT n ws (i+1) (o++[a.1]) (ls++[a.2.1]):=by
 obtain ⟨k1,k2,k3,k4,k5,k6,k7,k8,k9,k10,_,_⟩:=ha
 have sa:∀ f:GStream→Int,∀ l m:List GStream,((l++m).map f).sum=(l.map f).sum+(m.map f).sum:=fun f l m=>by simp
 refine ⟨by simp [hI.lo],by simp [hI.ll],fun k y r hy hr=>?_,fun r hr s hs=>?_,?_,?_,?_,?_,fun l hl=>?_⟩
 ·by_cases hk:k<i
  ·rw [List.getElem?_append_left (by rw [hI.lo]; exact hk)] at hr
   exact hI.rows k y r hy hr
  ·rw [List.getElem?_append_right (by rw [hI.lo]; omega),hI.lo] at hr
   have:k=i:=by
    have:=(List.getElem?_eq_some_iff.1 hr).1
    simp at this
    omega
   subst this
   rw [hx] at hy
   cases hy
   simp at hr
   subst hr
   exact k2
 ·rcases List.mem_append.1 hr with hr | hr
  ·exact hI.v r hr s hs
  ·simp at hr; subst hr; exact k1 s hs
 ·rw [Qqo hv hf hI hx _ (sa _),hI.m]
  have e1:(a.1.map fun s=>s.Mass).sum=(totS a.1).Mass:=rfl
  have e2:((insE o (ws.drop (wcn n i)) x).map fun s=>s.Mass).sum=(totS (insE o (ws.drop (wcn n i)) x)).Mass:=rfl
  have e3:∀ k,((ws.take k).map fun s=>s.Mass).sum=(totS (ws.take k)).Mass:=fun _=>rfl
  rw [e1,e2,e3,e3]
  omega
 ·rw [Qqo hv hf hI hx _ (sa _)]
  have e1:(a.1.map fun s=>s.Heat).sum=(totS a.1).Heat:=rfl
  have e2:((insE o (ws.drop (wcn n i)) x).map fun s=>s.Heat).sum=(totS (insE o (ws.drop (wcn n i)) x)).Heat:=rfl
  have e3:∀ k,((ws.take k).map fun s=>s.Heat).sum=(totS (ws.take k)).Heat:=fun _=>rfl
  have h:=hI.h
  rw [e1,e2,e3,e3,List.map_append,List.sum_append]
  simp only [List.map_cons,List.map_nil,List.sum_cons,List.sum_nil]
  omega
 ·rw [Qqo hv hf hI hx _ (sa _)]
  have e1:(a.1.map fun s=>s.Silica).sum=(totS a.1).Silica:=rfl
  have e2:((insE o (ws.drop (wcn n i)) x).map fun s=>s.Silica).sum=(totS (insE o (ws.drop (wcn n i)) x)).Silica:=rfl
  have e3:∀ k,((ws.take k).map fun s=>s.Silica).sum=(totS (ws.take k)).Silica:=fun _=>rfl
  have h:=hI.q
  rw [e1,e2,e3,e3,List.map_append,List.sum_append,List.map_append,List.sum_append]
  simp only [List.map_cons,List.map_nil,List.sum_cons,List.sum_nil]
  omega
 ·rw [Qqo hv hf hI hx _ (sa _)]
  have e1:(a.1.map fun s=>s.Gas).sum=(totS a.1).Gas:=rfl
  have e2:((insE o (ws.drop (wcn n i)) x).map fun s=>s.Gas).sum=(totS (insE o (ws.drop (wcn n i)) x)).Gas:=rfl
  have e3:∀ k,((ws.take k).map fun s=>s.Gas).sum=(totS (ws.take k)).Gas:=fun _=>rfl
  have h:=hI.g
  rw [e1,e2,e3,e3,List.map_append,List.sum_append]
  simp only [List.map_cons,List.map_nil,List.sum_cons,List.sum_nil]
  omega
 ·rcases List.mem_append.1 hl with hl | hl
  ·exact hI.l0 l hl
  ·simp at hl; subst hl; exact ⟨k7,k8,k9,k10⟩
include hv hf hI hx in
theorem Qvp:KeptA x (totS (insE o (ws.drop (wcn n i)) x)) (actE n.Table x (totS (insE o (ws.drop (wcn n i)) x))):=
 Q3d hv.tab (Ql3 (hv.alone x (List.mem_of_getElem? hx))) (hv.level x (List.mem_of_getElem? hx)) (Zfz hv hf hI hx).2
end
end Go.Proofs.YtmbhnllcfmiajaaGreat
