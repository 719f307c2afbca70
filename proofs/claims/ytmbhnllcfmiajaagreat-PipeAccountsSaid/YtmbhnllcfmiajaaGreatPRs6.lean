/-
  Plain laws on the document's shares and sums. No conditions but validity.
-/
import Derived.Test.YtmbhnllcfmiajaaGreatPSc6
import Derived.Test.YtmbhnllcfmiajaaGreatX7
namespace Go.Proofs.YtmbhnllcfmiajaaGreat
open Go.RowKit
theorem Qzz (a b:Int):w64 (w64 a - b)=w64 (a - b):=by
 unfold w64
 rw [IntKind.wrap_i64,IntKind.wrap_i64,IntKind.wrap_i64]
 omega
theorem Zb6 (N:Nat) (l:List GStream) (k:Int×Int×Int×Int→Option GStream) (hl:l.length≤1000000):∀ (n i:Nat) (a b c d:Int),(l.drop i).length<n →
  Qe9 N l k n i (w64 a) (w64 b) (w64 c) (w64 d)=k (w64 (a+(totS (l.drop i)).Mass),w64 (b+(totS (l.drop i)).Heat),w64 (c+(totS (l.drop i)).Silica),w64 (d+(totS (l.drop i)).Gas)):=by
 intro n
 induction n with
 | zero=>intro i _ _ _ _ h; exact absurd h (Nat.not_lt_zero _)
 | succ n ih=>
  intro i a b c d h
  rw [Qe9]
  cases hd:l.drop i with
  | nil=>
   have:=Qbx hd
   simp [show ¬ ((i:Int)<l.length) from by omega,totS]
  | cons x q=>
   obtain ⟨hg,hd',hlt⟩:=Qbl hd
   simp only [show decide ((i:Int)<l.length)=true from by simpa using hlt,cond_true,Qbu hg,Option.bind_some,Qjs]
   rw [Qa2 (x:=(i:Int)+1) (by omega) (by omega),show (i:Int)+1=((i+1:Nat):Int) by omega,ih (i+1) _ _ _ _ (by rw [hd']; rw [hd] at h; simp at h; omega),hd']
   simp only [totS,List.map_cons,List.sum_cons,Int.add_assoc]
theorem Qth {N:Nat} {l:List GStream} (hl:l.length≤1000) (hN:1001≤N):Qgx N l=some (totW l):=by
 unfold Qgx
 simp only [Qbb]
 have:=Zb6 N l (fun x=>match x with | (y1,y2,y3,y4)=>some (⟨y1,y2,y3,y4⟩:GStream)) (by omega) N 0 0 0 0 0 (by simp; omega)
 rw [Qpu,List.drop_zero] at this
 refine this.trans ?_
 simp [totW]
section
variable {N : Nat} {s : GStream} {ws : List Int} (hs : StrV s) (h : WtsV ws) (hN : 1001 ≤ N)
include h in
theorem Q2z (k:Int→Option (List GStream×GLoss)):∀ (n i:Nat) (a:Int),(ws.drop i).length<n→0≤a→a≤1000 * i→Qej N ws k n a i=k (a+(ws.drop i).sum):=by
 intro n
 induction n with
 | zero=>intro i _ h; exact absurd h (Nat.not_lt_zero _)
 | succ n ih=>
  intro i a hn s0 s1
  rw [Qej]
  cases hd:ws.drop i with
  | nil=>
   have:=Qbx hd
   simp [show ¬ ((i:Int)<ws.length) from by omega]
  | cons x l=>
   obtain ⟨hg,hd',hlt⟩:=Qbl hd
   have ha:=h.w x (List.mem_of_getElem? hg)
   have:=h.l2
   simp only [show decide ((i:Int)<ws.length)=true from by simpa using hlt,cond_true,Qbu hg,Option.bind_some,List.sum_cons]
   rw [Qa2 (x:=(i:Int)+1) (by omega) (by omega),Qa2 (x:=a+x) (by omega) (by omega),show (i:Int)+1=((i+1:Nat):Int) by omega,ih (i+1) (a+x) (by rw [hd']; rw [hd] at hn; simp at hn; omega) (by omega) (by omega),hd',Int.add_assoc]
include hs h in
theorem Q8i (k:Int×List Int→Option (List GStream×GLoss)):∀ (n i:Nat) (r:Int) (o:List Int),(ws.drop i).length<n→i≤ws.length→o.length=ws.length - i→-1000000 * (i:Int)≤r→r≤1000000 →
  Qek N s ws ws.sum k n r i (((ws.take i).map fun w=>s.Mass * w / ws.sum)++o)=k (r - ((ws.drop i).map fun w=>s.Mass * w / ws.sum).sum,Qna s.Mass ws):=by
 intro n
 induction n with
 | zero=>intro i _ _ h; exact absurd h (Nat.not_lt_zero _)
 | succ n ih=>
  intro i r o hn hi ho r0 r1
  rw [Qek]
  cases hd:ws.drop i with
  | nil=>
   have:=Qbx hd
   have e:o=[]:=List.length_eq_zero_iff.1 (by omega)
   simp [show ¬ ((i:Int)<ws.length) from by omega,e,List.take_of_length_le this,Qna]
  | cons a l=>
   obtain ⟨hg,hd',hlt⟩:=Qbl hd
   have ha:=h.w a (List.mem_of_getElem? hg)
   have hl2:=h.l2
   have h0:=hs.m0
   have h1:=hs.m1
   obtain ⟨p0,p1⟩:=h.sum
   obtain ⟨x,o',rfl⟩:∃ x o',o=x::o':=by
    cases o with
    | nil=>simp at ho; omega
    | cons x o'=>exact ⟨x,o',rfl⟩
   have hb:=Qqo h h0 (s.Mass * a / ws.sum) (List.mem_map.2 ⟨a,List.mem_of_getElem? hg,rfl⟩)
   have hp:=bdp h0 h1 ha.1 ha.2 (by omega)
   have hlt':((ws.take i).map fun w=>s.Mass * w / ws.sum).length=i:=by simp; omega
   have e2:∀ y,(((ws.take i).map fun w=>s.Mass * w / ws.sum)++y::o')[i]? = some y:=fun y=>by rw [List.getElem?_append_right (by omega),hlt']; simp
   have e3:(((ws.take i).map fun w=>s.Mass * w / ws.sum)++x::o').set i (s.Mass * a / ws.sum)=((ws.take i).map fun w=>s.Mass * w / ws.sum)++(s.Mass * a / ws.sum)::o':=by
    rw [List.set_append_right _ _ (by omega),hlt',Nat.sub_self,List.set_cons_zero]
   have e5:((ws.take i).map fun w=>s.Mass * w / ws.sum)++(s.Mass * a / ws.sum)::o'=((ws.take (i+1)).map fun w=>s.Mass * w / ws.sum)++o':=by
    rw [List.take_add_one,hg]; simp
   have e4:((i:Int):Int).toNat=i:=by omega
   have c1:(decide ((0:Int)≤(i:Int))&&decide (i<(ws.length:Int).toNat))=true:=by simp; omega
   have ev:w64 ((w64 (s.Mass * a)).tdiv ws.sum)=s.Mass * a / ws.sum:=by
    rw [Qa2 (x:=s.Mass * a) (by omega) (by omega),Int.tdiv_eq_ediv_of_nonneg hp.1,Qa2 (by omega) (by omega)]
   simp only [show decide ((i:Int)<ws.length)=true from by simpa using hlt,cond_true,Qbu hg,Option.bind_some,chk,show (ws.sum != 0)=true from by rw [bne_iff_ne]; omega,e4,c1,e2,ev,e3]
   rw [Qa2 (x:=(i:Int)+1) (by omega) (by omega),Qa2 (x:=r - s.Mass * a / ws.sum) (by omega) (by omega),show (i:Int)+1=((i+1:Nat):Int) by omega,e5,ih (i+1) _ o' (by rw [hd']; rw [hd] at hn; simp at hn; omega) (by omega) (by simp at ho; omega) (by omega) (by omega),hd',List.map_cons,List.sum_cons]
   congr 2
   omega
theorem Zik (key:Int→Int) (ls:List Int) (mk:List Bool) (d:Nat):-1≤Qlk key ls mk d∧Qlk key ls mk d<d:=by
 rcases Qrn key ls mk d with ⟨_,e⟩ | ⟨b,hb,e,_⟩<;>rw [e]<;>omega
include hs h in
theorem Zei (mk:List Bool) (hm:mk.length=ws.length) (k:Int→Option (List GStream×GLoss)):∀ (n i:Nat),ws.length - i<n→i≤ws.length →
  Qcv N s ws ws.sum mk k n (Qlk (rkey s.Mass ws.sum) ws mk i) i=k (Qlk (rkey s.Mass ws.sum) ws mk ws.length):=by
 intro n
 induction n with
 | zero=>intro i h; exact absurd h (Nat.not_lt_zero _)
 | succ n ih=>
  intro i hn hi
  have hl2:=h.l2
  have h0:=hs.m0
  have h1:=hs.m1
  obtain ⟨p0,p1⟩:=h.sum
  rw [Qcv]
  by_cases hlt:i<ws.length
  ·have hgm:mk[i]? = some (mk.getD i false):=by rw [List.getD_eq_getElem?_getD,List.getElem?_eq_getElem (by omega)]; rfl
   have hgw:∀ j:Nat,j<ws.length→ws[j]? = some (ws.getD j 0):=fun j hj=>by rw [List.getD_eq_getElem?_getD,List.getElem?_eq_getElem hj]; rfl
   have c1:(decide ((0:Int)≤(i:Int))&&decide (i<ws.length))=true:=by simp; omega
   have hih:=ih (i+1) (by omega) hlt
   have hrk:∀ x ∈ ws,(w64 (s.Mass * x)).tmod ws.sum=rkey s.Mass ws.sum x:=fun x hx=>by
    have hx':=h.w x hx
    have hp:=bdp h0 h1 hx'.1 hx'.2 (by omega)
    rw [Qa2 (by omega) (by omega),Int.tmod_eq_emod_of_nonneg hp.1]
    rfl
   simp only [show decide ((i:Int)<(ws.length:Int))=true from by simpa using hlt,cond_true,chk,Int.toNat_natCast,c1,hgm,Option.bind_some]
   rw [Qa2 (x:=(i:Int)+1) (by omega) (by omega),show (i:Int)+1=((i+1:Nat):Int) by omega]
   rw [Qlk] at hih
   cases hmk:mk.getD i false with
   | true=>
    rw [if_neg (by rw [hmk]; simp)] at hih
    simp only [Bool.not_true,cond_false]
    exact hih
   | false=>
    simp only [Bool.not_false,cond_true]
    by_cases hb:Qlk (rkey s.Mass ws.sum) ws mk i<0
    ·rw [if_pos ⟨hmk,.inl hb⟩] at hih
     rw [decide_eq_true hb,cond_true]
     exact hih
    ·have hbb:=Zik (rkey s.Mass ws.sum) ws mk i
     rw [decide_eq_false hb,cond_false]
     have g1:=hgw i hlt
     have g2:=hgw (Qlk (rkey s.Mass ws.sum) ws mk i).toNat (by omega)
     have g2':getI ws (Qlk (rkey s.Mass ws.sum) ws mk i)=some (ws.getD (Qlk (rkey s.Mass ws.sum) ws mk i).toNat 0):=by
      unfold getI; rw [if_pos (by omega),g2]
     simp only [Qbu g1,g2',Option.bind_some,show (ws.sum != 0)=true from by rw [bne_iff_ne]; omega,cond_true,hrk _ (List.mem_of_getElem? g1),hrk _ (List.mem_of_getElem? g2)]
     by_cases hc:rkey s.Mass ws.sum (ws.getD i 0)>rkey s.Mass ws.sum (ws.getD (Qlk (rkey s.Mass ws.sum) ws mk i).toNat 0)
     ·rw [if_pos ⟨hmk,.inr (by omega)⟩] at hih
      rw [decide_eq_true hc,cond_true]
      exact hih
     ·rw [if_neg (fun hh=>hh.2.elim hb (fun h3=>hc (by omega)))] at hih
      rw [decide_eq_false hc,cond_false]
      exact hih
  ·have e:i=ws.length:=by omega
   subst e
   rw [show decide ((ws.length:Int)<(ws.length:Int))=false by simp,cond_false]
include hs h hN in
theorem Q70 {L:List Int} (hp:L.Perm (ixs ws.length)) (hL:L.Pairwise (Qke (rkey s.Mass ws.sum) ws)) (k:List Int→Option (List GStream×GLoss)):∀ (n j q:Nat) (o:List Int),j<n→q+j≤L.length→o.length=ws.length→(∀ x ∈ o,0≤x∧x≤1000000+q) →
  Qel N s ws ws.sum k n j o ((L.take q).foldl mark (List.replicate ws.length false))=k (((L.drop q).take j).foldl bump o):=by
 intro n
 induction n with
 | zero=>intro j q o h; exact absurd h (Nat.not_lt_zero _)
 | succ n ih=>
  intro j q o hn hq ho hob
  have hlen:=hp.length_eq
  rw [Qh1] at hlen
  have hl2:=h.l2
  rw [Qel]
  cases j with
  | zero=>simp
  | succ j=>
   have hr:∀ x ∈ L,0≤x∧x<ws.length:=fun x hx=>Qpa.1 (hp.mem_iff.1 hx)
   have hml:((L.take q).foldl mark (List.replicate ws.length false)).length=ws.length:=by rw [Q0u]; simp
   have hb:Qlk (rkey s.Mass ws.sum) ws ((L.take q).foldl mark (List.replicate ws.length false)) ws.length=L[q]'(by omega):=Qwg hL (fun i hi=>hp.mem_iff.2 (Qpa.2 ⟨by omega,by omega⟩)) hr (fun i hi=>Qv6 hr i hi) (by omega)
   have hbl:=Zei (N:=N) hs h _ hml
   simp only [Qbb,show decide (((j+1:Nat):Int)>0)=true from decide_eq_true (by omega),cond_true]
   have:=fun k=>hbl k N 0 (by omega) (Nat.zero_le _)
   rw [show Qlk (rkey s.Mass ws.sum) ws ((L.take q).foldl mark (List.replicate ws.length false)) 0=-1 from rfl] at this
   refine (this _).trans ?_
   rw [hb]
   obtain ⟨x0,x1⟩:=hr (L[q]'(by omega)) (List.getElem_mem _)
   generalize hz:L[q]'(by omega)=z at x0 x1
   have c1:(decide (0≤z)&&decide (z.toNat<(ws.length:Int).toNat))=true:=by simp; omega
   have g1:∃ b,((L.take q).foldl mark (List.replicate ws.length false))[z.toNat]? = some b:=⟨_,List.getElem?_eq_getElem (by omega)⟩
   obtain ⟨b,g1⟩:=g1
   have g2:o[z.toNat]? = some (o.getD z.toNat 0):=by rw [List.getD_eq_getElem?_getD,List.getElem?_eq_getElem (by omega)]; rfl
   have hxb:=hob _ (List.mem_of_getElem? g2)
   simp only [chk,c1,cond_true,g1,g2,Option.bind_some]
   rw [Qa2 (x:=((j+1:Nat):Int) - 1) (by omega) (by omega),Qa2 (x:=o.getD z.toNat 0+1) (by omega) (by omega),show (((j+1:Nat):Int) - 1)=(j:Int) by omega]
   have ht:mark ((L.take q).foldl mark (List.replicate ws.length false)) z=(L.take (q+1)).foldl mark (List.replicate ws.length false):=by
    rw [List.take_add_one,List.getElem?_eq_getElem (by omega),hz,List.foldl_append]
    rfl
   have hih:=ih j (q+1) (bump o z) (by omega) (by omega) (by rw [Qji]; exact ho) (fun y hy=>by
    rcases List.mem_or_eq_of_mem_set hy with hy | rfl
    ·have:=hob y hy; omega
    ·omega)
   rw [← ht] at hih
   refine hih.trans ?_
   rw [List.drop_eq_getElem_cons (show q<L.length by omega),hz,List.take_succ_cons,List.foldl_cons]
include hs in
theorem Qyb {n m:Int} (hn:0≤n) (hn':n≤10000000000) (h0:0≤m) (h1:m≤s.Mass):Qib N n m s.Mass=some (n * m / mx s):=by
 have hM:=hs.m1
 have hM0:=hs.m0
 have hp:=bdp hn hn' h0 (show m≤1000000 by omega) (by omega)
 have hb:=Qtz hM0 h0 h1 hn
 unfold Qib
 by_cases hz:s.Mass=0
 ·have hm:m=0:=by omega
  rw [hz,hm,Int.mul_zero,Int.zero_ediv]; rfl
 ·have hx:mx s=s.Mass:=by unfold mx; split<;>omega
  rw [hx] at hb ⊢
  rw [show (s.Mass==0)=false by simpa using hz,cond_false,Qa2 (x:=n * m) (by omega) (by omega),Int.tdiv_eq_ediv_of_nonneg hp.1,Qa2 (by omega) (by omega)]
  rw [show (s.Mass != 0)=true by simpa using hz]
  rfl
include hs h in
theorem Q3f (k:List GStream×Int×Int×Int→Option (List GStream×GLoss)) (l:List Int) (hl:l.length=ws.length) (hb:∀ m ∈ l,0≤m∧m≤s.Mass):∀ (n i:Nat) (acc:List GStream) (a b c:Int),(l.drop i).length<n→acc.length=i →
  Qem N s ws l k n acc i (w64 a) (w64 b) (w64 c)=k (acc++(l.drop i).map (Qre s),w64 (a - (totS ((l.drop i).map (Qre s))).Heat),w64 (b - (totS ((l.drop i).map (Qre s))).Silica),w64 (c - (totS ((l.drop i).map (Qre s))).Gas)):=by
 intro n
 induction n with
 | zero=>intro i _ _ _ _ h; exact absurd h (Nat.not_lt_zero _)
 | succ n ih=>
  intro i acc a b c hn ha
  have hl2:=h.l2
  rw [Qem]
  cases hd:l.drop i with
  | nil=>
   have:=Qbx hd
   simp [show ¬ ((i:Int)<ws.length) from by omega,totS]
  | cons m q=>
   obtain ⟨hg,hd',hlt⟩:=Qbl hd
   obtain ⟨m0,m1⟩:=hb m (List.mem_of_getElem? hg)
   have a1:=hs.m1
   have c1:(decide ((0:Int)≤(i:Int))&&decide (i<ws.length))=true:=by simp; omega
   simp only [show decide ((i:Int)<ws.length)=true from by simp; omega,cond_true,chk,Int.toNat_natCast,c1,hg,Option.bind_some,Qyb (N:=N) hs hs.h0 (by have:=hs.h1; omega) m0 m1,Qyb (N:=N) hs hs.s0 (by have:=hs.s1; omega) m0 m1,Qyb (N:=N) hs hs.g0 (by have:=hs.g1; omega) m0 m1,Qzz]
   have hc:decide ((acc.length+[(⟨m,s.Heat * m / mx s,s.Silica * m / mx s,s.Gas * m / mx s⟩:GStream)].length) * 32≤140737488355328)=true:=by simp; omega
   rw [hc,cond_true,Qa2 (x:=(i:Int)+1) (by omega) (by omega),show (i:Int)+1=((i+1:Nat):Int) by omega,
    ih (i+1) _ _ _ _ (by rw [hd']; rw [hd] at hn; simp at hn; omega) (by simp [ha]),hd',List.append_assoc,List.map_cons,Ql0]
   simp only [Qre,Int.sub_sub]
   rfl
include hs h hN in
theorem Qz7:Qhp N s ws=some (Qgn s ws,Qi5 s ws):=by
 have hl1:=h.l1
 have hl2:=h.l2
 have h0:=hs.m0
 have h1:=hs.m1
 obtain ⟨L,hp,hL⟩:=Qtt h h0 h1
 have hlen:=hp.length_eq
 rw [Qh1] at hlen
 have hb:=Qyf h h0
 unfold Qhp
 simp only [Qbb]
 refine (Q2z h _ N 0 0 (by simp; omega) (by omega) (by omega)).trans ?_
 rw [List.drop_zero,Int.zero_add]
 simp only [chk]
 rw [show (decide ((0:Int)≤(ws.length:Int))&&decide (8 * (ws.length:Int)≤281474976710656)&&decide ((ws.length:Int)≤9223372036854775807))=true from by simp; omega,cond_true,show (decide ((0:Int)≤(ws.length:Int))&&decide (1 * (ws.length:Int)≤281474976710656)&&decide ((ws.length:Int)≤9223372036854775807))=true from by simp; omega]
 simp only [cond_true]
 have eo:=fun k=>Q8i (N:=N) hs h k N 0 s.Mass (List.replicate (ws.length:Int).toNat 0) (by simp; omega) (by omega) (by simp) (by omega) h1
 simp only [List.take_zero,List.map_nil,List.nil_append,List.drop_zero] at eo
 refine (eo _).trans ?_
 dsimp only
 have hL2:s.Mass - (ws.map fun w=>s.Mass * w / ws.sum).sum=((Qm7 s.Mass ws).toNat:Int):=by
  have:s.Mass - (ws.map fun w=>s.Mass * w / ws.sum).sum=Qm7 s.Mass ws:=rfl
  omega
 rw [hL2]
 have hpk:=fun k=>Q70 (N:=N) hs h hN hp hL k N (Qm7 s.Mass ws).toNat 0 (Qna s.Mass ws) (by omega) (by omega) (Qja _ _) (fun x hx=>by have:=Qqo h h0 x hx; omega)
 simp only [List.take_zero,List.foldl_nil,List.drop_zero] at hpk
 rw [show (ws.length:Int).toNat=ws.length by omega]
 refine (hpk _).trans ?_
 have hm:(L.take (Qm7 s.Mass ws).toNat).foldl bump (Qna s.Mass ws)=Qhi s.Mass ws:=by
  rw [Qhi,Qmp h h0 hp hL]
 rw [hm]
 have hK:=Qik hs h
 obtain ⟨_,k1,k2,k3,k4,k5,k6,k7⟩:=hK
 have v:=Qlr (Qik hs h).v
 have:=v.h0
 have:=v.s0
 have:=v.g0
 have g1:=hs.h1
 have g2:=hs.s1
 have g3:=hs.g1
 have g4:=hs.h0
 have g5:=hs.s0
 have g6:=hs.g0
 have hpl:=fun k=>Q3f (N:=N) hs h k (Qhi s.Mass ws) (Qgl _ _) (Qrh h h0 h1) N 0 [] s.Heat s.Silica s.Gas (by rw [List.drop_zero,Qgl]; omega) rfl
 rw [Qa2 (x:=s.Heat) (by omega) (by omega),Qa2 (x:=s.Silica) (by omega) (by omega),Qa2 (x:=s.Gas) (by omega) (by omega)] at hpl
 refine (hpl _).trans ?_
 rw [List.drop_zero,List.nil_append]
 have e:(Qhi s.Mass ws).map (Qre s)=Qgn s ws:=rfl
 rw [e]
 unfold Qi5 at *
 dsimp only at *
 rw [Qa2 (x:=s.Heat - _) (by omega) (by omega),Qa2 (x:=s.Silica - _) (by omega) (by omega),Qa2 (x:=s.Gas - _) (by omega) (by omega)]
end
end Go.Proofs.YtmbhnllcfmiajaaGreat
